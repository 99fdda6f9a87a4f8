/- load: get of turn, what is long enough. Conditions: as said. -/
import Derived.Test.YtbpaimfnfigjpaaLoad13
namespace Go.Proofs.Ytbpaimfnfigjpaa
open Go.RowKit Go.Lib Go.IntWalk
set_option linter.unusedVariables false
set_option maxRecDepth 100000
theorem list20x (l : List UInt8) (h : l.length = 20) : ∃ f : Nat → UInt8, l = (List.range 20).map f := by
  refine ⟨fun i => l.getD i 0, ?_⟩
  apply List.ext_getElem?
  intro i
  rcases Nat.lt_or_ge i 20 with hi | hi
  · rw [List.getElem?_map, List.getElem?_range hi]
    rw [List.getElem?_eq_getElem (by omega)]
    simp [List.getElem?_eq_getElem (show i < l.length by omega)]
  · rw [List.getElem?_eq_none (by omega), List.getElem?_eq_none (by simp; omega)]
theorem build_k (k : List UInt8) (h : k.length = 20) : dfill (bpl 1 20) (zeros 1 (bs (List.replicate 20 0))) [(0, .agg (bs k))] = some (bs k) := by
  obtain ⟨f, rfl⟩ := list20x k h
  kernel_rfl
theorem kn_cut {z : List UInt8} {n : Nat} (h : z.length = n) (ze : List D) : cut ⟨true, n, ze⟩ 0 (bs z) = some (.agg (bs z)) := by
  unfold cut
  simp only [cond_true, Nat.zero_add, List.drop_zero]
  rw [bs_len, h, List.take_of_length_le (by rw [bs_len, h]; exact Nat.le_refl _), Nat.ble_self_eq_true]; rfl
theorem or_4 (A0 A1 A2 A3 : Nat) (q0 : A0 < 2 ^ 8) (q1 : A1 < 2 ^ 8) (q2 : A2 < 2 ^ 8) (q3 : A3 < 2 ^ 8) : ∃ B0 B1 B2 V1 V2 : Nat,
    IntKind.i64.wrap ((A0 : Int) * 2 ^ (min (24 : Int).toNat IntKind.i64.bits)) = (B0 : Int) ∧ IntKind.i64.wrap ((A1 : Int) * 2 ^ (min (16 : Int).toNat IntKind.i64.bits)) = (B1 : Int) ∧ IntKind.i64.wrap ((A2 : Int) * 2 ^ (min (8 : Int).toNat IntKind.i64.bits)) = (B2 : Int) ∧
    bitw .or .i64 (B0 : Int) (B1 : Int) = (V1 : Int) ∧ bitw .or .i64 (V1 : Int) (B2 : Int) = (V2 : Int) ∧ bitw .or .i64 (V2 : Int) (A3 : Int) = ((((A0 * 256 + A1) * 256 + A2) * 256 + A3 : Nat) : Int) := by
  have s0 := shl_i64 A0 24 16777216 (by decide) (by simp) (by omega)
  have s1 := shl_i64 A1 16 65536 (by decide) (by simp) (by omega)
  have s2 := shl_i64 A2 8 256 (by decide) (by decide) (by omega)
  have o1 := or_i64 A0 (A1 * 65536) 24 16777216 (by simp) (by omega) (by omega)
  have o2 := or_i64 (A0 * 256 + A1) (A2 * 256) 16 65536 (by simp) (by omega) (by omega)
  have o3 := or_i64 ((A0 * 256 + A1) * 256 + A2) A3 8 256 (by decide) (by omega) (by omega)
  have e1 : A0 * 16777216 + A1 * 65536 = (A0 * 256 + A1) * 65536 := by omega
  have e2 : (A0 * 256 + A1) * 65536 + A2 * 256 = ((A0 * 256 + A1) * 256 + A2) * 256 := by rw [show (65536 : Nat) = 256 * 256 from rfl, ← Nat.mul_assoc, ← Nat.add_mul]
  rw [e1] at o1
  rw [e2] at o2
  exact ⟨_, _, _, _, _, s0, s1, s2, o1, o2, o3⟩
set_option maxHeartbeats 8000000 in
theorem tu_get_long (a0 a1 a2 a3 c : UInt8) (r b : List UInt8) (hb : b = a0 :: a1 :: a2 :: a3 :: c :: r) (L : Nat) (hL : b.length = L) (hL9 : L ≤ 140737488355328) (h : 5 + 20 * c.toNat < L) : Pur Try.prog 68 [.agg [], .slice .frozen L (bs b)] (.tup [.agg ld0, .int .i64 3]) := by
  have hz1 : L * 1 = (bs b).length := by rw [bs_len, hL]; omega
  have hb4 : ∀ ze, cut ⟨false, 1, ze⟩ 0 ((bs b).drop ((4 : Int).toNat * 1)) = some (.int .u8 (c.toNat : Int)) := bs_nth b [a0, a1, a2, a3] r c hb _ rfl
  have hb0 : ∀ ze, cut ⟨false, 1, ze⟩ 0 ((bs b).drop ((0 : Int).toNat * 1)) = some (.int .u8 (a0.toNat : Int)) := bs_nth b [] (a1 :: a2 :: a3 :: c :: r) a0 hb _ rfl
  have hb1 : ∀ ze, cut ⟨false, 1, ze⟩ 0 ((bs b).drop ((1 : Int).toNat * 1)) = some (.int .u8 (a1.toNat : Int)) := bs_nth b [a0] (a2 :: a3 :: c :: r) a1 hb _ rfl
  have hb2 : ∀ ze, cut ⟨false, 1, ze⟩ 0 ((bs b).drop ((2 : Int).toNat * 1)) = some (.int .u8 (a2.toNat : Int)) := bs_nth b [a0, a1] (a3 :: c :: r) a2 hb _ rfl
  have hb3 : ∀ ze, cut ⟨false, 1, ze⟩ 0 ((bs b).drop ((3 : Int).toNat * 1)) = some (.int .u8 (a3.toNat : Int)) := bs_nth b [a0, a1, a2] (c :: r) a3 hb _ rfl
  have q0 := a0.toNat_lt
  have q1 := a1.toNat_lt
  have q2 := a2.toNat_lt
  have q3 := a3.toNat_lt
  have q4 := c.toNat_lt
  generalize a0.toNat = A0 at *
  generalize a1.toNat = A1 at *
  generalize a2.toNat = A2 at *
  generalize a3.toNat = A3 at *
  generalize c.toNat = C at *
  have c0 : IntKind.i64.wrap (A0 : Int) = (A0 : Int) := i64_in _ (by omega)
  have c1 : IntKind.i64.wrap (A1 : Int) = (A1 : Int) := i64_in _ (by omega)
  have c2 : IntKind.i64.wrap (A2 : Int) = (A2 : Int) := i64_in _ (by omega)
  have c3 : IntKind.i64.wrap (A3 : Int) = (A3 : Int) := i64_in _ (by omega)
  have c4 : IntKind.i64.wrap (C : Int) = (C : Int) := i64_in _ (by omega)
  obtain ⟨B0, B1, B2, V1, V2, s0, s1, s2, o1, o2, o3⟩ := or_4 A0 A1 A2 A3 q0 q1 q2 q3
  generalize ((A0 * 256 + A1) * 256 + A2) * 256 + A3 = V at *
  have hm := mul20 C (by omega)
  have hf := fill_ug V
  have hz : ∀ ze, cut ⟨true, 80, ze⟩ 0 ld0 = some (.agg ld0) := ldC_all z32_len z32_len _ rfl
  have hbz : dfill ldPl ld0 [] = some ld0 := rfl
  have hlen : ld0.length = 80 := ldC_len z32_len z32_len _ rfl
  have hlay : ∀ cs : List D, cs.length = 80 → splice 0 ld0 cs = some ld0 := ldC_lay z32_len z32_len _ rfl
  have hfz := ld0_fz
  have hlT : (tuC V (.slice .nil 0 [])).length = 80 := tuC_len _ _
  have hlyT : ∀ cs : List D, cs.length = 80 → splice 0 (tuC V (.slice .nil 0 [])) cs = some (tuC V (.slice .nil 0 [])) := tuC_lay _ _
  generalize bs b = Z at *
  generalize tuC V (.slice .nil 0 []) = TC at *
  refine pur_intro Try.func68 rfl Try.ntmps68 rfl (by first | rfl | assumption | exact bs_cl _) fun B => ?_
  repeat (first | with_reducible (first | refine W_seq ?_ | refine q_then ?_ | refine q_thenr ?_ | refine q_thenx ?_ | refine W_block ?_ | refine q_block ?_ | refine q_blockr ?_ | refine q_blockx ?_ | refine W_ret ?_ | refine W_skip ?_ | refine W_label ?_ | refine W_exit ?_ | refine W_scope ?_ | refine q_scope ?_ | refine q_scoper ?_ | refine q_scopex ?_) | (with_reducible refine R_nil ?_; try dsimp only [slots0, slots_ud, cells_U, agg_ud, drop0, dropS, takeS, take0, ud_nil, take_ud, take_ud0, drop_ud, drop_ud0, take_udk, D.cells, D.fz, D.fzs, List.take_succ_cons, List.take_zero, List.drop_succ_cons, List.drop_zero, List.cons_append, List.nil_append, List.append_eq, List.length_cons, List.length_nil, Nat.reduceAdd, Nat.reduceMul, Nat.reduceSub, Int.reduceAdd, Int.reduceSub, Int.reduceToNat, Int.reduceNeg, Int.reduceMul]) | refine q_blocky rfl ?_ | refine W_plain rfl ?_ | refine W_drawn mixed rfl ?_ | refine and_chk (by kernel_rfl) ?_ | (refine k_indexAddrs rfl rfl rfl ⟨?_, ?_⟩ hz1 ?_; (omega); (omega)) | refine k_loade rfl rfl (hb4 _) ?_ | refine k_loade rfl rfl (hb0 _) ?_ | refine k_loade rfl rfl (hb1 _) ?_ | refine k_loade rfl rfl (hb2 _) ?_ | refine k_loade rfl rfl (hb3 _) ?_ | refine k_build rfl rfl hf ?_ | refine k_build rfl rfl hbz ?_ | refine k_store rfl rfl rfl rfl (by exact hlen) rfl (by exact hlay _ rfl) ?_ | refine k_store rfl rfl rfl rfl (by exact hlT) rfl (by exact hlyT _ rfl) ?_ | refine k_move rfl rfl ?_ | refine k_assign rfl rfl ?_ | refine k_load rfl rfl rfl rfl ?_ | refine k_alloc rfl ?_ | refine k_box rfl rfl rfl ?_ | refine k_store rfl rfl rfl rfl rfl rfl rfl ?_ | refine k_fieldAddr rfl rfl rfl ?_ | refine k_build rfl rfl rfl ?_ | refine k_conv rfl rfl c4 ?_ | refine k_conv rfl rfl c0 ?_ | refine k_conv rfl rfl c1 ?_ | refine k_conv rfl rfl c2 ?_ | refine k_conv rfl rfl c3 ?_ | refine k_mul rfl rfl rfl hm ?_ | (refine k_shl rfl rfl rfl ?_ (by with_reducible exact s0) ?_; (decide)) | (refine k_shl rfl rfl rfl ?_ (by with_reducible exact s1) ?_; (decide)) | (refine k_shl rfl rfl rfl ?_ (by with_reducible exact s2) ?_; (decide)) | refine k_bits rfl rfl rfl rfl (by with_reducible exact o1) ?_ | refine k_bits rfl rfl rfl rfl (by with_reducible exact o2) ?_ | refine k_bits rfl rfl rfl rfl (by with_reducible exact o3) ?_ | (refine k_append rfl rfl rfl ?_ ?_ ?_ rfl ?_ rfl rfl rfl ?_; (first | rfl | exact trivial | (show 0 < _; omega)); (first | rfl | (simp <;> omega)); (first | rfl | (simp <;> omega)); (omega)) | (refine k_slice rfl rfl rfl rfl ⟨?_, ?_, ?_⟩ rfl rfl rfl ?_; (omega); (omega); (omega)) | (refine k_slice3 rfl rfl rfl rfl rfl ⟨?_, ?_, ?_⟩ rfl rfl rfl ?_; (omega); (omega); (omega)) | (refine k_sliceA rfl rfl rfl rfl ⟨?_, ?_, ?_, ?_⟩ rfl rfl ?_; (omega); (omega); (omega); (omega)) | (refine k_sliceE rfl rfl rfl rfl ⟨?_, ?_, ?_, ?_⟩ rfl rfl rfl rfl ?_; (omega); (omega); (omega); (omega)) | refine k_buildSlice (cs := []) rfl rfl rfl rfl rfl rfl rfl ?_ | refine k_buildSlice rfl rfl rfl rfl rfl rfl rfl ?_ | (refine k_indexAddr rfl rfl rfl ⟨?_, ?_⟩ ?_; (omega); (omega)) | (refine k_indexAddrs rfl rfl rfl ⟨?_, ?_⟩ rfl ?_; (omega); (omega)) | refine k_loade rfl rfl rfl ?_ | refine k_fieldAddre rfl rfl rfl rfl ?_ | refine k_len rfl rfl ?_ | refine k_pickT rfl rfl rfl ?_ | refine k_pickF rfl rfl rfl ?_ | (refine k_addi rfl rfl rfl ?_ ?_; (omega)) | (refine k_lssT rfl rfl rfl ?_ ?_; (omega)) | (refine k_lssF rfl rfl rfl ?_ ?_; (omega)) | (refine k_gtrT rfl rfl rfl ?_ ?_; (omega)) | (refine k_gtrF rfl rfl rfl ?_ ?_; (omega)) | refine k_skip rfl ?_ | refine k_skip0 rfl ?_ | refine k_pick rfl rfl rfl rfl rfl ?_ | refine W_yes rfl ?_ | refine W_no rfl ?_)
  (first | with_reducible refine q_endr ?_ | with_reducible refine q_endn ?_); refine rets2 Try.results68 (RetV.cell _ _ _ _ _ _ _ _ inferInstance rfl rfl (by exact hz _)) (RetV.tmp _ _ rfl) ?_ rfl
  show D.agg (D.fzs ld0) = _
  rw [hfz]
set_option maxHeartbeats 8000000 in
theorem tu_get (a0 a1 a2 a3 c : UInt8) (ks : List (List UInt8)) (hk : ∀ k ∈ ks, k.length = 20) (b : List UInt8) (hb : b = a0 :: a1 :: a2 :: a3 :: c :: ks.flatten) (n : Nat) (hn : ks.length = n) (hc : c.toNat = n) (xn : Nat) (hx : nm [a0, a1, a2, a3] = xn) (L : Nat) (hLn : 5 + 20 * n = L) :
    Pur Try.prog 68 [.agg [], .slice .frozen L (bs b)] (.tup [.agg (tuC xn (.slice .frozen n (bs ks.flatten))), .int .i64 0]) := by
  have hL : b.length = L := by rw [hb, ← hLn]; simp only [List.length_cons]; rw [(keys_at ks hk).1, hn]; omega
  have hz1 : L * 1 = (bs b).length := by rw [bs_len, hL]; omega
  have hat : ∀ (j : Nat) (k : List UInt8), ks[j]? = some k → ((bs b).drop (((5 + 20 * j : Nat) : Int).toNat * 1)).take 20 = bs k ∧ k.length = 20 := fun j k h => by
    have h1 := (keys_at ks hk).2 j k h
    have e : ((5 + 20 * j : Nat) : Int).toNat * 1 = 5 + j * 20 := by omega
    refine ⟨?_, hk k (List.mem_of_getElem? h)⟩
    rw [e]
    unfold bs
    rw [← List.map_drop, ← List.map_take, hb, show 5 + j * 20 = (j * 20) + 1 + 1 + 1 + 1 + 1 by omega]
    simp only [List.drop_succ_cons]
    rw [h1.1]
  have hsn : ∀ (j : Nat) (k : List UInt8), ks[j]? = some k → (ks.take (j + 1)).flatten = (ks.take j).flatten ++ k := flat_snoc ks
  have hfn : ∀ j, j ≤ ks.length → (ks.take j).flatten.length = 20 * j := fun j hj => by
    rw [(keys_at _ fun k hk' => hk k (List.mem_of_mem_take hk')).1, List.length_take, Nat.min_eq_left hj]; omega
  rw [nm_4] at hx
  have hb4 : ∀ ze, cut ⟨false, 1, ze⟩ 0 ((bs b).drop ((4 : Int).toNat * 1)) = some (.int .u8 (c.toNat : Int)) := bs_nth b [a0, a1, a2, a3] ks.flatten c hb _ rfl
  have hb0 : ∀ ze, cut ⟨false, 1, ze⟩ 0 ((bs b).drop ((0 : Int).toNat * 1)) = some (.int .u8 (a0.toNat : Int)) := bs_nth b [] (a1 :: a2 :: a3 :: c :: ks.flatten) a0 hb _ rfl
  have hb1 : ∀ ze, cut ⟨false, 1, ze⟩ 0 ((bs b).drop ((1 : Int).toNat * 1)) = some (.int .u8 (a1.toNat : Int)) := bs_nth b [a0] (a2 :: a3 :: c :: ks.flatten) a1 hb _ rfl
  have hb2 : ∀ ze, cut ⟨false, 1, ze⟩ 0 ((bs b).drop ((2 : Int).toNat * 1)) = some (.int .u8 (a2.toNat : Int)) := bs_nth b [a0, a1] (a3 :: c :: ks.flatten) a2 hb _ rfl
  have hb3 : ∀ ze, cut ⟨false, 1, ze⟩ 0 ((bs b).drop ((3 : Int).toNat * 1)) = some (.int .u8 (a3.toNat : Int)) := bs_nth b [a0, a1, a2] (c :: ks.flatten) a3 hb _ rfl
  have q0 := a0.toNat_lt
  have q1 := a1.toNat_lt
  have q2 := a2.toNat_lt
  have q3 := a3.toNat_lt
  have q4 := c.toNat_lt
  generalize a0.toNat = A0 at *
  generalize a1.toNat = A1 at *
  generalize a2.toNat = A2 at *
  generalize a3.toNat = A3 at *
  rw [hc] at q4 hb4
  have c0 : IntKind.i64.wrap (A0 : Int) = (A0 : Int) := i64_in _ (by omega)
  have c1 : IntKind.i64.wrap (A1 : Int) = (A1 : Int) := i64_in _ (by omega)
  have c2 : IntKind.i64.wrap (A2 : Int) = (A2 : Int) := i64_in _ (by omega)
  have c3 : IntKind.i64.wrap (A3 : Int) = (A3 : Int) := i64_in _ (by omega)
  have c4 : IntKind.i64.wrap (n : Int) = (n : Int) := i64_in _ (by omega)
  obtain ⟨B0, B1, B2, V1, V2, s0, s1, s2, o1, o2, o3⟩ := or_4 A0 A1 A2 A3 q0 q1 q2 q3
  rw [hx] at o3
  have hm := mul20 n (by omega)
  have hf := fill_ug xn
  have hz : ∀ ze, cut ⟨true, 80, ze⟩ 0 ld0 = some (.agg ld0) := ldC_all z32_len z32_len _ rfl
  have hbz : dfill ldPl ld0 [] = some ld0 := rfl
  have hlen : ld0.length = 80 := ldC_len z32_len z32_len _ rfl
  have hlay : ∀ cs : List D, cs.length = 80 → splice 0 ld0 cs = some ld0 := ldC_lay z32_len z32_len _ rfl
  have hcl : (D.tup [.agg (tuC xn (.slice .frozen n (bs ks.flatten))), .int .i64 0]).cl = true := by
    have h0 : D.cls (tuC xn (.slice .frozen n (bs ks.flatten))) = true := ld_cl 0 0 0 z32' 0 z32' 0 0 xn ⟨#[]⟩ (.slice .nil 0 []) (.slice .frozen n (bs ks.flatten)) rfl rfl
    show (D.cls (tuC xn (.slice .frozen n (bs ks.flatten))) && true) = true
    rw [h0]; rfl
  have hlT := tuC_len xn (.slice .nil 0 [])
  have hlyT := tuC_lay xn (.slice .nil 0 [])
  generalize bs b = Z at *
  clear hx hb
  refine pur_intro Try.func68 rfl Try.ntmps68 rfl hcl fun B => ?_
  repeat (first | with_reducible (first | refine W_seq ?_ | refine q_then ?_ | refine q_thenr ?_ | refine q_thenx ?_ | refine W_block ?_ | refine q_block ?_ | refine q_blockr ?_ | refine q_blockx ?_ | refine W_ret ?_ | refine W_skip ?_ | refine W_label ?_ | refine W_exit ?_ | refine W_scope ?_ | refine q_scope ?_ | refine q_scoper ?_ | refine q_scopex ?_) | (with_reducible refine R_nil ?_; try dsimp only [slots0, slots_ud, cells_U, agg_ud, drop0, dropS, takeS, take0, ud_nil, take_ud, take_ud0, drop_ud, drop_ud0, take_udk, D.cells, D.fz, D.fzs, List.take_succ_cons, List.take_zero, List.drop_succ_cons, List.drop_zero, List.cons_append, List.nil_append, List.append_eq, List.length_cons, List.length_nil, Nat.reduceAdd, Nat.reduceMul, Nat.reduceSub, Int.reduceAdd, Int.reduceSub, Int.reduceToNat, Int.reduceNeg, Int.reduceMul]) | refine q_blocky rfl ?_ | refine W_plain rfl ?_ | refine W_drawn mixed rfl ?_ | refine and_chk (by kernel_rfl) ?_ | (refine k_indexAddrs rfl rfl rfl ⟨?_, ?_⟩ hz1 ?_; (omega); (omega)) | refine k_loade rfl rfl (hb4 _) ?_ | refine k_loade rfl rfl (hb0 _) ?_ | refine k_loade rfl rfl (hb1 _) ?_ | refine k_loade rfl rfl (hb2 _) ?_ | refine k_loade rfl rfl (hb3 _) ?_ | refine k_build rfl rfl hf ?_ | refine k_build rfl rfl hbz ?_ | refine k_store rfl rfl rfl rfl (by exact hlT) rfl (by exact hlyT _ rfl) ?_ | refine k_move rfl rfl ?_ | refine k_assign rfl rfl ?_ | refine k_load rfl rfl rfl rfl ?_ | refine k_alloc rfl ?_ | refine k_box rfl rfl rfl ?_ | refine k_store rfl rfl rfl rfl rfl rfl rfl ?_ | refine k_fieldAddr rfl rfl rfl ?_ | refine k_build rfl rfl rfl ?_ | refine k_conv rfl rfl c4 ?_ | refine k_conv rfl rfl c0 ?_ | refine k_conv rfl rfl c1 ?_ | refine k_conv rfl rfl c2 ?_ | refine k_conv rfl rfl c3 ?_ | refine k_mul rfl rfl rfl hm ?_ | (refine k_shl rfl rfl rfl ?_ (by with_reducible exact s0) ?_; (decide)) | (refine k_shl rfl rfl rfl ?_ (by with_reducible exact s1) ?_; (decide)) | (refine k_shl rfl rfl rfl ?_ (by with_reducible exact s2) ?_; (decide)) | refine k_bits rfl rfl rfl rfl (by with_reducible exact o1) ?_ | refine k_bits rfl rfl rfl rfl (by with_reducible exact o2) ?_ | refine k_bits rfl rfl rfl rfl (by with_reducible exact o3) ?_ | (refine k_append rfl rfl rfl ?_ ?_ ?_ rfl ?_ rfl rfl rfl ?_; (first | rfl | exact trivial | (show 0 < _; omega)); (first | rfl | (simp <;> omega)); (first | rfl | (simp <;> omega)); (omega)) | (refine k_slice rfl rfl rfl rfl ⟨?_, ?_, ?_⟩ rfl rfl rfl ?_; (omega); (omega); (omega)) | (refine k_slice3 rfl rfl rfl rfl rfl ⟨?_, ?_, ?_⟩ rfl rfl rfl ?_; (omega); (omega); (omega)) | (refine k_sliceA rfl rfl rfl rfl ⟨?_, ?_, ?_, ?_⟩ rfl rfl ?_; (omega); (omega); (omega); (omega)) | (refine k_sliceE rfl rfl rfl rfl ⟨?_, ?_, ?_, ?_⟩ rfl rfl rfl rfl ?_; (omega); (omega); (omega); (omega)) | refine k_buildSlice (cs := []) rfl rfl rfl rfl rfl rfl rfl ?_ | refine k_buildSlice rfl rfl rfl rfl rfl rfl rfl ?_ | (refine k_indexAddr rfl rfl rfl ⟨?_, ?_⟩ ?_; (omega); (omega)) | (refine k_indexAddrs rfl rfl rfl ⟨?_, ?_⟩ rfl ?_; (omega); (omega)) | refine k_loade rfl rfl rfl ?_ | refine k_fieldAddre rfl rfl rfl rfl ?_ | refine k_len rfl rfl ?_ | refine k_pickT rfl rfl rfl ?_ | refine k_pickF rfl rfl rfl ?_ | (refine k_addi rfl rfl rfl ?_ ?_; (omega)) | (refine k_lssT rfl rfl rfl ?_ ?_; (omega)) | (refine k_lssF rfl rfl rfl ?_ ?_; (omega)) | (refine k_gtrT rfl rfl rfl ?_ ?_; (omega)) | (refine k_gtrF rfl rfl rfl ?_ ?_; (omega)) | refine k_skip rfl ?_ | refine k_skip0 rfl ?_ | refine k_pick rfl rfl rfl rfl rfl ?_ | refine W_yes rfl ?_ | refine W_no rfl ?_)
  refine W_of_weak (weak_tok 89 20) ?_
  refine W_loopW (fun n' ρ m nx => ∃ (j : Nat) (z : List D), j ≤ n ∧ z = bs (ks.take j).flatten ∧ n' = n - j ∧ ρ = [(60, .int .i64 (j : Int)), (59, .int .i64 (n : Int)), (6, .ptr 2 0), (4, .ptr 1 0), (1, .slice .frozen L Z)] ∧ m = [(2, some (.var 51 (tuC xn (.slice (.own 3) j z)))), (3, some (.tok 89 20)), (1, some (.var 51 ld0))] ∧ nx = 4)
    ⟨_, _, _, _, (weak_ren (fun l => l) (by repeat (first | exact trivial | refine ⟨⟨_, rfl, .refl _, rfl⟩, ?_⟩)) (by exact ⟨⟨rfl, _, rfl, tuC_ups _ _ _ _ (.nil _), tuC_lall _ _ _ rfl⟩, ⟨rfl, rfl⟩, ⟨rfl, _, rfl, Ups.refl _, rfl⟩, trivial⟩) (by first | decide | simp) (Nat.zero_le _) (fun _ h => absurd h (Nat.not_lt_zero _))), 0, [], Nat.zero_le _, rfl, rfl, rfl, rfl, rfl⟩ ?_
  rintro n' ρ m nx ⟨j, z', hj, hz', rfl, rfl, rfl, rfl⟩
  by_cases hlt : j < n
  · obtain ⟨k, hk'⟩ : ∃ k, ks[j]? = some k := ⟨_, List.getElem?_eq_getElem (by omega)⟩
    obtain ⟨h1, lk⟩ := hat j k hk'
    have h2 := hsn j k hk'
    have h3 := hfn j (by omega)
    have hzz : z' ++ bs k = bs (ks.take (j + 1)).flatten := by
      rw [hz', h2]; unfold bs; rw [← List.map_append]
    have hqz : j * 20 = z'.length := by rw [hz', bs_len, h3]; omega
    have h20 : 1 * 20 = (bs k).length := by rw [bs_len, lk]
    have hsm : j + 1 ≤ 16777216 := by omega
    have hmj := mul20 j (by omega)
    have e5 : (5 : Int) + ((20 * j : Nat) : Int) = ((5 + 20 * j : Nat) : Int) := by omega
    generalize hZ : bs (ks.take (j + 1)).flatten = Z2 at *
    rw [← e5] at h1
    obtain ⟨q, hq⟩ : ∃ q, L - (5 + 20 * j) = q := ⟨_, rfl⟩
    have hq1 : ((L : Int) - (5 + ((20 * j : Nat) : Int))).toNat = q := by omega
    have hq2 : Nat.min q 20 = 20 := Nat.min_eq_right (by omega)
    obtain ⟨S, hS⟩ : ∃ S, (Z.drop ((5 + ((20 * j : Nat) : Int)).toNat * 1)).take (q * 1) = S := ⟨_, rfl⟩
    have hS2 : S.take 20 = bs k := by
      rw [← hS, List.take_take, Nat.min_eq_left (by omega)]; exact h1
    have hbk := build_k k lk
    have hkc := kn_cut lk
    have hkp := kn_put lk
    have hmj := mul20 j (by omega)
    repeat (first | with_reducible (first | refine W_seq ?_ | refine q_then ?_ | refine q_thenr ?_ | refine q_thenx ?_ | refine W_block ?_ | refine q_block ?_ | refine q_blockr ?_ | refine q_blockx ?_ | refine W_ret ?_ | refine W_skip ?_ | refine W_label ?_ | refine W_exit ?_ | refine W_scope ?_ | refine q_scope ?_ | refine q_scoper ?_ | refine q_scopex ?_) | (with_reducible refine R_nil ?_; try dsimp only [slots0, slots_ud, cells_U, agg_ud, drop0, dropS, takeS, take0, ud_nil, take_ud, take_ud0, drop_ud, drop_ud0, take_udk, D.cells, D.fz, D.fzs, List.take_succ_cons, List.take_zero, List.drop_succ_cons, List.drop_zero, List.cons_append, List.nil_append, List.append_eq, List.length_cons, List.length_nil, Nat.reduceAdd, Nat.reduceMul, Nat.reduceSub, Int.reduceAdd, Int.reduceSub, Int.reduceToNat, Int.reduceNeg, Int.reduceMul]) | refine q_blocky rfl ?_ | refine W_plain rfl ?_ | refine W_drawn mixed rfl ?_ | refine and_chk (by kernel_rfl) ?_ | (refine k_slice (nn := q) rfl rfl rfl rfl ⟨?_, ?_, ?_⟩ hz1 hq1 hS ?_; (omega); (omega); (omega)) | refine k_load rfl rfl rfl (tuC_d _ _ _) ?_ | refine k_load rfl rfl rfl (hkc _) ?_ | refine k_buildSlice rfl rfl hbk (bs_fzs _) (bs_cl _) rfl rfl ?_ | (refine k_append rfl rfl rfl ?_ hqz h20 rfl hsm rfl rfl hzz ?_; (rfl)) | refine k_store rfl rfl rfl rfl rfl rfl (tuC_put _ _ _) ?_ | refine k_move rfl rfl ?_ | refine k_assign rfl rfl ?_ | refine k_load rfl rfl rfl rfl ?_ | refine k_alloc rfl ?_ | refine k_box rfl rfl rfl ?_ | refine k_store rfl rfl rfl rfl rfl rfl rfl ?_ | refine k_fieldAddr rfl rfl rfl ?_ | refine k_build rfl rfl rfl ?_ | refine k_mul rfl rfl rfl hmj ?_ | refine k_copyd (k := 20) rfl rfl rfl rfl rfl hq2 hS2 lk (by exact hkp _ rfl) ?_ | (refine k_append rfl rfl rfl ?_ ?_ ?_ rfl ?_ rfl rfl rfl ?_; (first | rfl | exact trivial | (show 0 < _; omega)); (first | rfl | (simp <;> omega)); (first | rfl | (simp <;> omega)); (omega)) | (refine k_slice rfl rfl rfl rfl ⟨?_, ?_, ?_⟩ rfl rfl rfl ?_; (omega); (omega); (omega)) | (refine k_slice3 rfl rfl rfl rfl rfl ⟨?_, ?_, ?_⟩ rfl rfl rfl ?_; (omega); (omega); (omega)) | (refine k_sliceA rfl rfl rfl rfl ⟨?_, ?_, ?_, ?_⟩ rfl rfl ?_; (omega); (omega); (omega); (omega)) | (refine k_sliceE rfl rfl rfl rfl ⟨?_, ?_, ?_, ?_⟩ rfl rfl rfl rfl ?_; (omega); (omega); (omega); (omega)) | refine k_buildSlice (cs := []) rfl rfl rfl rfl rfl rfl rfl ?_ | refine k_buildSlice rfl rfl rfl rfl rfl rfl rfl ?_ | (refine k_indexAddr rfl rfl rfl ⟨?_, ?_⟩ ?_; (omega); (omega)) | (refine k_indexAddrs rfl rfl rfl ⟨?_, ?_⟩ rfl ?_; (omega); (omega)) | refine k_loade rfl rfl rfl ?_ | refine k_fieldAddre rfl rfl rfl rfl ?_ | refine k_len rfl rfl ?_ | refine k_pickT rfl rfl rfl ?_ | refine k_pickF rfl rfl rfl ?_ | (refine k_addi rfl rfl rfl ?_ ?_; (omega)) | (refine k_lssT rfl rfl rfl ?_ ?_; (omega)) | (refine k_lssF rfl rfl rfl ?_ ?_; (omega)) | (refine k_gtrT rfl rfl rfl ?_ ?_; (omega)) | (refine k_gtrF rfl rfl rfl ?_ ?_; (omega)) | refine k_skip rfl ?_ | refine k_skip0 rfl ?_ | refine k_pick rfl rfl rfl rfl rfl ?_ | refine W_yes rfl ?_ | refine W_no rfl ?_)
    subst hZ
    exact ⟨n - (j + 1), _, _, _, (weak_ren (fun l => if l = 3 then 6 else l) (by repeat (first | exact trivial | refine ⟨⟨_, rfl, .refl _, rfl⟩, ?_⟩)) (by exact ⟨⟨rfl, _, rfl, tuC_ups _ _ _ _ (.refl _), tuC_lall _ _ _ rfl⟩, ⟨rfl, rfl⟩, ⟨rfl, _, rfl, Ups.refl _, rfl⟩, trivial⟩) (by first | decide | simp) (Nat.zero_le _) (fun _ h => absurd h (Nat.not_lt_zero _))), by omega, j + 1, _, by omega, rfl, rfl, rfl, rfl, rfl⟩
  · have ej : j = n := by omega
    subst ej
    rw [List.take_of_length_le (by omega)] at hz'
    subst hz'
    have hlO := tuC_len xn (.slice (.own 3) j (bs ks.flatten))
    have hlyO := tuC_lay xn (.slice (.own 3) j (bs ks.flatten))
    have hallO := tuC_all xn (.slice (.own 3) j (bs ks.flatten))
    repeat (first | with_reducible (first | refine W_seq ?_ | refine q_then ?_ | refine q_thenr ?_ | refine q_thenx ?_ | refine W_block ?_ | refine q_block ?_ | refine q_blockr ?_ | refine q_blockx ?_ | refine W_ret ?_ | refine W_skip ?_ | refine W_label ?_ | refine W_exit ?_ | refine W_scope ?_ | refine q_scope ?_ | refine q_scoper ?_ | refine q_scopex ?_) | (with_reducible refine R_nil ?_; try dsimp only [slots0, slots_ud, cells_U, agg_ud, drop0, dropS, takeS, take0, ud_nil, take_ud, take_ud0, drop_ud, drop_ud0, take_udk, D.cells, D.fz, D.fzs, List.take_succ_cons, List.take_zero, List.drop_succ_cons, List.drop_zero, List.cons_append, List.nil_append, List.append_eq, List.length_cons, List.length_nil, Nat.reduceAdd, Nat.reduceMul, Nat.reduceSub, Int.reduceAdd, Int.reduceSub, Int.reduceToNat, Int.reduceNeg, Int.reduceMul]) | refine q_blocky rfl ?_ | refine W_plain rfl ?_ | refine W_drawn mixed rfl ?_ | refine and_chk (by kernel_rfl) ?_ | refine k_load rfl rfl rfl (hallO _) ?_ | refine k_store rfl rfl rfl rfl (by exact hlO) rfl (by exact hlyO _ rfl) ?_ | refine k_move rfl rfl ?_ | refine k_assign rfl rfl ?_ | refine k_load rfl rfl rfl rfl ?_ | refine k_alloc rfl ?_ | refine k_box rfl rfl rfl ?_ | refine k_store rfl rfl rfl rfl rfl rfl rfl ?_ | refine k_fieldAddr rfl rfl rfl ?_ | refine k_build rfl rfl rfl ?_ | (refine k_append rfl rfl rfl ?_ ?_ ?_ rfl ?_ rfl rfl rfl ?_; (first | rfl | exact trivial | (show 0 < _; omega)); (first | rfl | (simp <;> omega)); (first | rfl | (simp <;> omega)); (omega)) | (refine k_slice rfl rfl rfl rfl ⟨?_, ?_, ?_⟩ rfl rfl rfl ?_; (omega); (omega); (omega)) | (refine k_slice3 rfl rfl rfl rfl rfl ⟨?_, ?_, ?_⟩ rfl rfl rfl ?_; (omega); (omega); (omega)) | (refine k_sliceA rfl rfl rfl rfl ⟨?_, ?_, ?_, ?_⟩ rfl rfl ?_; (omega); (omega); (omega); (omega)) | (refine k_sliceE rfl rfl rfl rfl ⟨?_, ?_, ?_, ?_⟩ rfl rfl rfl rfl ?_; (omega); (omega); (omega); (omega)) | refine k_buildSlice (cs := []) rfl rfl rfl rfl rfl rfl rfl ?_ | refine k_buildSlice rfl rfl rfl rfl rfl rfl rfl ?_ | (refine k_indexAddr rfl rfl rfl ⟨?_, ?_⟩ ?_; (omega); (omega)) | (refine k_indexAddrs rfl rfl rfl ⟨?_, ?_⟩ rfl ?_; (omega); (omega)) | refine k_loade rfl rfl rfl ?_ | refine k_fieldAddre rfl rfl rfl rfl ?_ | refine k_len rfl rfl ?_ | refine k_pickT rfl rfl rfl ?_ | refine k_pickF rfl rfl rfl ?_ | (refine k_addi rfl rfl rfl ?_ ?_; (omega)) | (refine k_lssT rfl rfl rfl ?_ ?_; (omega)) | (refine k_lssF rfl rfl rfl ?_ ?_; (omega)) | (refine k_gtrT rfl rfl rfl ?_ ?_; (omega)) | (refine k_gtrF rfl rfl rfl ?_ ?_; (omega)) | refine k_skip rfl ?_ | refine k_skip0 rfl ?_ | refine k_pick rfl rfl rfl rfl rfl ?_ | refine W_yes rfl ?_ | refine W_no rfl ?_)
    (first | with_reducible refine q_endr ?_ | with_reducible refine q_endn ?_); refine rets2 Try.results68 (RetV.cell _ _ _ _ _ _ _ _ inferInstance rfl rfl (by exact hallO _)) (RetV.tmp _ _ rfl) ?_ rfl
    show D.agg (D.fzs (tuC _ _)) = _
    rw [tuC_fz]; rfl
end Go.Proofs.Ytbpaimfnfigjpaa
