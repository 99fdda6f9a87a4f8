/- KeccakParts: it does not matter how bytes are cut. Conditions: none but what the card says of the tables. -/
import Derived.Test.YtokijcdanegooaaDoorKecT
import Derived.Test.YtokijcdanegooaaDoorPickP
import Derived.Test.YtokijcdanegooaaDoorRowD
import Derived.Test.YtokijcdanegooaaDoorRowB
namespace Go.Proofs.YtokijcdanegooaaDoor.keccakParts
open Go.ChangeShapes Go.WideShapes Go.RowKit Go.Joins Go.Lib Go.IntWalk
set_option linter.unusedVariables false
open Go.Proofs.YtokijcdanegooaaDoor Go.Proofs.YtokijcdanegooaaDoor.Kec
set_option maxRecDepth 100000

theorem sub_bs (l p : List UInt8) (o : Int) (x q : Nat) (ho : o.toNat = x) (h : (l.drop x).take q = p) : ((bs l).drop (o.toNat * 1)).take (q * 1) = bs p := by
  subst h
  rw [ho, Nat.mul_one, Nat.mul_one]
  unfold bs
  rw [← List.map_drop, ← List.map_take]
theorem cl2 {X : List D} (h : D.cl (.agg X) = true) : D.cl (.tup [.agg X, .int .i64 0]) = true := by
  show ((D.agg X).cl && true) = true
  rw [h]; rfl
theorem ca2 {X Y : List D} {n : Nat} (h : D.cl (.agg X) = true) : D.cls [D.agg X, .slice .frozen n Y] = true := by
  show ((D.agg X).cl && true) = true
  rw [h]; rfl
theorem fa2 {X Y : List D} {n : Nat} (h : D.fzs [D.agg X] = [D.agg X]) : D.fzs [D.agg X, .slice .frozen n Y] = [D.agg X, .slice .frozen n Y] := by
  have e : (D.agg X).fz = D.agg X := by
    have : [(D.agg X).fz] = [D.agg X] := h
    simpa using this
  show [(D.agg X).fz, _] = _
  rw [e]; rfl
theorem ca1 {X : List D} (h : D.cl (.agg X) = true) : D.cls [D.agg X] = true := by
  show ((D.agg X).cl && true) = true
  rw [h]; rfl
theorem lkb : ∀ (n : Nat) (z : List UInt8), z.length = n → lks (bs z) = lks (bs (List.replicate n 0))
  | 0, [], _ => rfl
  | n + 1, c :: z, h => by
    have ih := lkb n z (by simpa using h)
    rw [List.replicate_succ]
    show lks (D.int .u8 (c.toNat : Int) :: bs z) = lks (D.int .u8 _ :: bs (List.replicate n 0))
    unfold lks
    rw [ih]
    rfl
theorem tmod_nat (x y z : Nat) (h : z = (x + y) % 136) : ((x : Int) + (y : Int)).tmod 136 = (z : Int) := by
  subst h
  rw [Int.tmod_eq_emod_of_nonneg (by omega)]
  omega
set_option maxHeartbeats 8000000 in
theorem pur_at (b p1 p2 p3 c : List UInt8) (hc : b.take 400 = c) (hp : c = p1 ++ p2 ++ p3) (u v : Int) (L n a1 a2 a3 : Nat) (hL : b.length = L) (hn : c.length = n) (h1 : p1.length = a1) (h2 : p2.length = a2) (h3 : p3.length = a3) (hu : u % ((n : Int) + 1) = a1) (hv : v % ((n : Int) - a1 + 1) = a2) :
    Pur Tryd.prog 5 [.slice .frozen L (bs b), .int .i64 u, .int .i64 v] (.bool true) := by
  have hsum : n = a1 + a2 + a3 := by rw [← hn, hp]; simp only [List.length_append]; omega
  have hn4 : n = min L 400 := by rw [← hn, ← hc, List.length_take, hL]; omega
  have hbL : Unit → L * 1 = (bs b).length := fun _ => by rw [bs_len, hL]; omega
  have hcL : Unit → n * 1 = (bs c).length := fun _ => by rw [bs_len, hn]; omega
  have hmin : Unit → min (L : Int) 400 = (n : Int) := fun _ => by omega
  have hmin' : Unit → min 400 (L : Int) = (n : Int) := fun _ => by omega
  have k0 : Unit → ((n : Int) - 0).toNat = n := fun _ => by omega
  have t0 : ((bs b).drop ((0 : Int).toNat * 1)).take (n * 1) = bs c := sub_bs b c 0 0 n rfl (by
    rw [List.drop_zero, ← hc, hn4, ← hL, List.take_eq_take_iff]; omega)
  have k1 : Unit → ((a1 : Int) - 0).toNat = a1 := fun _ => by omega
  have t1 : ((bs c).drop ((0 : Int).toNat * 1)).take (a1 * 1) = bs p1 := sub_bs c p1 0 0 a1 rfl (by
    rw [List.drop_zero, hp, List.append_assoc, ← h1, List.take_left])
  have k2 : Unit → ((a1 : Int) + (a2 : Int) - (a1 : Int)).toNat = a2 := fun _ => by omega
  have t2 : ((bs c).drop ((a1 : Int).toNat * 1)).take (a2 * 1) = bs p2 := sub_bs c p2 a1 a1 a2 (by omega) (by
    rw [hp, List.append_assoc, ← h1, List.drop_left, ← h2, List.take_left])
  have k3 : Unit → ((n : Int) - ((a1 : Int) + (a2 : Int))).toNat = a3 := fun _ => by omega
  have t3 : ((bs c).drop (((a1 : Int) + (a2 : Int)).toNat * 1)).take (a3 * 1) = bs p3 := sub_bs c p3 _ (a1 + a2) a3 (by omega) (by
    rw [hp, ← h1, ← h2, ← List.length_append, List.drop_left, ← h3, List.take_length])
  have pk1 := p_picked u ((n : Int) + 1) a1 (by omega) (by omega) hu
  have pk2 := p_picked v ((n : Int) - a1 + 1) a2 (by omega) (by omega) hv
  have hB := Begin_ok
  have hS := Sum_ok c n hn (by omega)
  have q0 : ((fun _ => 0, []) : S × List UInt8).2.length < 136 := by decide
  have e0 : ((fun _ => 0, []) : S × List UInt8).2.length = 0 := rfl
  have hk : kec c = endS (addA (addA (addA (fun _ => 0, []) p1) p2) p3) := by rw [addA_app, addA_app]; unfold kec; rw [hp, List.append_assoc]
  generalize hs0 : ((fun _ => 0, []) : S × List UInt8) = s0 at *
  have A1 := Add_ok s0 q0 p1 a1 h1 (by omega)
  have m1 := addA_n p1 s0 q0
  have q1 := addA_lt p1 s0 q0
  generalize addA s0 p1 = s1 at *
  have A2 := Add_ok s1 q1 p2 a2 h2 (by omega)
  have m2 := addA_n p2 s1 q1
  have q2 := addA_lt p2 s1 q1
  generalize addA s1 p2 = s2 at *
  have A3 := Add_ok s2 q2 p3 a3 h3 (by omega)
  have m3 := addA_n p3 s2 q2
  have q3 := addA_lt p3 s2 q2
  generalize addA s2 p3 = s3 at *
  have E := End_ok s3 q3
  rw [← hk] at E
  have lz := kec_len c
  generalize kec c = Z at *
  obtain ⟨w0, y0, z0, n0, f0, c0⟩ := sp_facts s0 q0
  obtain ⟨w1, y1, z1, n1, f1, c1⟩ := sp_facts s1 q1
  obtain ⟨w2, y2, z2, n2, f2, c2⟩ := sp_facts s2 q2
  obtain ⟨w3, y3, z3, n3, f3, c3⟩ := sp_facts s3 q3
  rw [h1] at m1; rw [h2] at m2; rw [h3] at m3
  have r1 := fun _ : Unit => tmod_nat _ _ _ m1
  have r2 := fun _ : Unit => tmod_nat _ _ _ m2
  have r3 := fun _ : Unit => tmod_nat _ _ _ m3
  generalize s0.2.length = l0 at *
  generalize s1.2.length = l1 at *
  generalize s2.2.length = l2 at *
  generalize s3.2.length = l3 at *
  generalize spD s0 = X0 at *
  generalize spD s1 = X1 at *
  generalize spD s2 = X2 at *
  generalize spD s3 = X3 at *
  have hT := k_tells
  have hwZ := b_cut lz
  have hcz : D.cl (.tup [.agg (bs Z), .int .i64 0]) = true := by show (D.cls (bs Z) && true) = true; rw [bs_cl]; rfl
  have hn4' : n ≤ 400 := by omega
  have hnL : n ≤ L := by omega
  have ll0 : l0 < 136 := q0
  have ll1 : l1 < 136 := q1
  have ll2 : l2 < 136 := q2
  clear hn4 m1 m2 m3 hL hn h1 h2 h3 hu hv hc hp q0 q1 q2 q3 e0 hs0 hk
  refine pur_intro Tryd.func5 rfl Tryd.ntmps5 rfl (by first | rfl | assumption | exact bs_cl _) fun B => ?_
  repeat (first | with_reducible refine W_seq ?_ | with_reducible refine q_then ?_ | with_reducible refine q_thenr ?_ | with_reducible refine q_thenx ?_ | with_reducible refine W_block ?_ | with_reducible refine q_block ?_ | with_reducible refine q_blockr ?_ | with_reducible refine q_blockx ?_ | with_reducible refine W_ret ?_ | with_reducible refine W_skip ?_ | with_reducible refine W_label ?_ | with_reducible refine W_exit ?_ | with_reducible refine W_scope ?_ | with_reducible refine q_scope ?_ | with_reducible refine q_scoper ?_ | with_reducible refine q_scopex ?_ | (with_reducible refine R_nil ?_; try dsimp only [slots0, slots_ud, cells_U, agg_ud, drop0, dropS, takeS, take0, ud_nil, take_ud, take_ud0, drop_ud, drop_ud0, take_udk, D.cells, D.fz, D.fzs, List.take_succ_cons, List.take_zero, List.drop_succ_cons, List.drop_zero, List.cons_append, List.nil_append, List.append_eq, List.length_cons, List.length_nil, Nat.reduceAdd, Nat.reduceMul, Nat.reduceSub, Int.reduceAdd, Int.reduceSub, Int.reduceToNat, Int.reduceNeg, Int.reduceMul]) | refine q_blocky rfl ?_ | refine W_plain rfl ?_ | refine W_drawn mixed rfl ?_ | refine and_chk (by kernel_rfl) ?_ | refine k_store rfl rfl rfl rfl (by exact z0) rfl (by exact y0 _ rfl) ?_ | refine k_slice rfl rfl rfl rfl ⟨by omega, by omega, by omega⟩ (by exact hbL ()) (by exact k0 ()) (by exact t0) ?_ | refine k_slice rfl rfl rfl rfl ⟨by omega, by omega, by omega⟩ (by exact hcL ()) (by exact k1 ()) (by exact t1) ?_ | refine k_slice rfl rfl rfl rfl ⟨by omega, by omega, by omega⟩ (by exact hcL ()) (by exact k2 ()) (by exact t2) ?_ | refine k_slice rfl rfl rfl rfl ⟨by omega, by omega, by omega⟩ (by exact hcL ()) (by exact k3 ()) (by exact t3) ?_ | refine k_buildSlice (cs := [.slice .frozen a1 (bs p1), .slice .frozen a2 (bs p2), .slice .frozen a3 (bs p3)]) rfl rfl rfl rfl rfl rfl rfl ?_ | refine k_move rfl rfl ?_ | refine k_assign rfl rfl ?_ | refine k_load rfl rfl rfl rfl ?_ | refine k_alloc rfl ?_ | refine k_box rfl rfl rfl ?_ | refine k_store rfl rfl rfl rfl rfl rfl rfl ?_ | refine k_extract rfl rfl rfl ?_ | refine k_fieldAddr rfl rfl rfl ?_ | refine k_field rfl rfl rfl ?_ | refine k_build rfl rfl rfl ?_ | refine k_min rfl rfl rfl (hmin ()) ?_ | refine k_call rfl pk1 rfl rfl rfl rfl ?_ | refine k_call rfl pk2 rfl rfl rfl rfl ?_ | refine k_call rfl hB rfl rfl rfl c0 ?_ | refine k_append rfl rfl rfl (by first | rfl | exact trivial | (show 0 < _; omega)) (by first | rfl | (simp <;> omega)) (by first | rfl | (simp <;> omega)) rfl (by omega) rfl rfl rfl ?_ | refine k_slice rfl rfl rfl rfl ⟨by omega, by omega, by omega⟩ rfl rfl rfl ?_ | refine k_slice3 rfl rfl rfl rfl rfl ⟨by omega, by omega, by omega⟩ rfl rfl rfl ?_ | refine k_sliceA rfl rfl rfl rfl ⟨by omega, by omega, by omega, by omega⟩ rfl rfl ?_ | refine k_sliceE rfl rfl rfl rfl ⟨by omega, by omega, by omega, by omega⟩ rfl rfl rfl rfl ?_ | refine k_buildSlice (cs := []) rfl rfl rfl rfl rfl rfl rfl ?_ | refine k_buildSlice rfl rfl rfl rfl rfl rfl rfl ?_ | refine k_indexAddr rfl rfl rfl ⟨by omega, by omega⟩ ?_ | refine k_indexAddrs rfl rfl rfl ⟨by omega, by omega⟩ rfl ?_ | refine k_index rfl rfl rfl ⟨by omega, by omega⟩ rfl ?_ | refine k_loade rfl rfl rfl ?_ | refine k_fieldAddre rfl rfl rfl rfl ?_ | refine k_len rfl rfl ?_ | refine k_nilCheck rfl rfl rfl ?_ | refine k_pickT rfl rfl rfl ?_ | refine k_pickF rfl rfl rfl ?_ | refine k_addi rfl rfl rfl (by omega) ?_ | refine k_subi rfl rfl rfl (by omega) ?_ | refine k_negi rfl rfl (by omega) ?_ | refine k_not rfl rfl rfl ?_ | refine k_lssT rfl rfl rfl (by omega) ?_ | refine k_lssF rfl rfl rfl (by omega) ?_ | refine k_leqT rfl rfl rfl (by omega) ?_ | refine k_leqF rfl rfl rfl (by omega) ?_ | refine k_gtrT rfl rfl rfl (by omega) ?_ | refine k_gtrF rfl rfl rfl (by omega) ?_ | refine k_geqT rfl rfl rfl (by omega) ?_ | refine k_geqF rfl rfl rfl (by omega) ?_ | refine k_eqlT rfl rfl rfl (by omega) ?_ | refine k_eqlF rfl rfl rfl (by omega) ?_ | refine k_neqT rfl rfl rfl (by omega) ?_ | refine k_neqF rfl rfl rfl (by omega) ?_ | refine k_eqa rfl rfl rfl rfl rfl rfl ?_ | refine k_nea rfl rfl rfl rfl rfl rfl ?_ | refine k_makeFunc rfl rfl rfl ?_ | refine k_skip rfl ?_ | refine k_skip0 rfl ?_ | refine k_pick rfl rfl rfl rfl rfl ?_ | refine W_yes rfl ?_ | refine W_no rfl ?_)
  refine W_unroll (WL_round ?_)
  repeat (first | with_reducible refine W_seq ?_ | with_reducible refine q_then ?_ | with_reducible refine q_thenr ?_ | with_reducible refine q_thenx ?_ | with_reducible refine W_block ?_ | with_reducible refine q_block ?_ | with_reducible refine q_blockr ?_ | with_reducible refine q_blockx ?_ | with_reducible refine W_ret ?_ | with_reducible refine W_skip ?_ | with_reducible refine W_label ?_ | with_reducible refine W_exit ?_ | with_reducible refine W_scope ?_ | with_reducible refine q_scope ?_ | with_reducible refine q_scoper ?_ | with_reducible refine q_scopex ?_ | (with_reducible refine R_nil ?_; try dsimp only [slots0, slots_ud, cells_U, agg_ud, drop0, dropS, takeS, take0, ud_nil, take_ud, take_ud0, drop_ud, drop_ud0, take_udk, D.cells, D.fz, D.fzs, List.take_succ_cons, List.take_zero, List.drop_succ_cons, List.drop_zero, List.cons_append, List.nil_append, List.append_eq, List.length_cons, List.length_nil, Nat.reduceAdd, Nat.reduceMul, Nat.reduceSub, Int.reduceAdd, Int.reduceSub, Int.reduceToNat, Int.reduceNeg, Int.reduceMul]) | refine q_blocky rfl ?_ | refine W_plain rfl ?_ | refine W_drawn mixed rfl ?_ | refine and_chk (by kernel_rfl) ?_ | refine k_store rfl rfl rfl rfl (by exact z1) rfl (by exact y1 _ rfl) ?_ | refine k_store rfl rfl rfl rfl (by exact z1) rfl (by exact y1 _ (by assumption)) ?_ | refine k_load rfl rfl rfl (by exact w0 _) ?_ | refine k_load rfl rfl rfl (by exact w1 _) ?_ | refine k_load rfl rfl rfl (by exact n1 _) ?_ | refine k_load rfl rfl rfl (by exact n0 _) ?_ | refine k_move rfl rfl ?_ | refine k_assign rfl rfl ?_ | refine k_load rfl rfl rfl rfl ?_ | refine k_alloc rfl ?_ | refine k_box rfl rfl rfl ?_ | refine k_store rfl rfl rfl rfl rfl rfl rfl ?_ | refine k_extract rfl rfl rfl ?_ | refine k_fieldAddr rfl rfl rfl ?_ | refine k_field rfl rfl rfl ?_ | refine k_build rfl rfl rfl ?_ | refine k_call rfl A1 rfl (fa2 f0) (ca2 c0) (cl2 c1) ?_ | refine k_rem rfl rfl rfl (by decide) (by exact r1 ()) ?_ | refine k_append rfl rfl rfl (by first | rfl | exact trivial | (show 0 < _; omega)) (by first | rfl | (simp <;> omega)) (by first | rfl | (simp <;> omega)) rfl (by omega) rfl rfl rfl ?_ | refine k_slice rfl rfl rfl rfl ⟨by omega, by omega, by omega⟩ rfl rfl rfl ?_ | refine k_slice3 rfl rfl rfl rfl rfl ⟨by omega, by omega, by omega⟩ rfl rfl rfl ?_ | refine k_sliceA rfl rfl rfl rfl ⟨by omega, by omega, by omega, by omega⟩ rfl rfl ?_ | refine k_sliceE rfl rfl rfl rfl ⟨by omega, by omega, by omega, by omega⟩ rfl rfl rfl rfl ?_ | refine k_buildSlice (cs := []) rfl rfl rfl rfl rfl rfl rfl ?_ | refine k_buildSlice rfl rfl rfl rfl rfl rfl rfl ?_ | refine k_indexAddr rfl rfl rfl ⟨by omega, by omega⟩ ?_ | refine k_indexAddrs rfl rfl rfl ⟨by omega, by omega⟩ rfl ?_ | refine k_index rfl rfl rfl ⟨by omega, by omega⟩ rfl ?_ | refine k_loade rfl rfl rfl ?_ | refine k_fieldAddre rfl rfl rfl rfl ?_ | refine k_len rfl rfl ?_ | refine k_nilCheck rfl rfl rfl ?_ | refine k_pickT rfl rfl rfl ?_ | refine k_pickF rfl rfl rfl ?_ | refine k_addi rfl rfl rfl (by omega) ?_ | refine k_subi rfl rfl rfl (by omega) ?_ | refine k_negi rfl rfl (by omega) ?_ | refine k_not rfl rfl rfl ?_ | refine k_lssT rfl rfl rfl (by omega) ?_ | refine k_lssF rfl rfl rfl (by omega) ?_ | refine k_leqT rfl rfl rfl (by omega) ?_ | refine k_leqF rfl rfl rfl (by omega) ?_ | refine k_gtrT rfl rfl rfl (by omega) ?_ | refine k_gtrF rfl rfl rfl (by omega) ?_ | refine k_geqT rfl rfl rfl (by omega) ?_ | refine k_geqF rfl rfl rfl (by omega) ?_ | refine k_eqlT rfl rfl rfl (by omega) ?_ | refine k_eqlF rfl rfl rfl (by omega) ?_ | refine k_neqT rfl rfl rfl (by omega) ?_ | refine k_neqF rfl rfl rfl (by omega) ?_ | refine k_eqa rfl rfl rfl rfl rfl rfl ?_ | refine k_nea rfl rfl rfl rfl rfl rfl ?_ | refine k_makeFunc rfl rfl rfl ?_ | refine k_skip rfl ?_ | refine k_skip0 rfl ?_ | refine k_pick rfl rfl rfl rfl rfl ?_ | refine W_yes rfl ?_ | refine W_no rfl ?_)
  refine WL_round ?_
  repeat (first | with_reducible refine W_seq ?_ | with_reducible refine q_then ?_ | with_reducible refine q_thenr ?_ | with_reducible refine q_thenx ?_ | with_reducible refine W_block ?_ | with_reducible refine q_block ?_ | with_reducible refine q_blockr ?_ | with_reducible refine q_blockx ?_ | with_reducible refine W_ret ?_ | with_reducible refine W_skip ?_ | with_reducible refine W_label ?_ | with_reducible refine W_exit ?_ | with_reducible refine W_scope ?_ | with_reducible refine q_scope ?_ | with_reducible refine q_scoper ?_ | with_reducible refine q_scopex ?_ | (with_reducible refine R_nil ?_; try dsimp only [slots0, slots_ud, cells_U, agg_ud, drop0, dropS, takeS, take0, ud_nil, take_ud, take_ud0, drop_ud, drop_ud0, take_udk, D.cells, D.fz, D.fzs, List.take_succ_cons, List.take_zero, List.drop_succ_cons, List.drop_zero, List.cons_append, List.nil_append, List.append_eq, List.length_cons, List.length_nil, Nat.reduceAdd, Nat.reduceMul, Nat.reduceSub, Int.reduceAdd, Int.reduceSub, Int.reduceToNat, Int.reduceNeg, Int.reduceMul]) | refine q_blocky rfl ?_ | refine W_plain rfl ?_ | refine W_drawn mixed rfl ?_ | refine and_chk (by kernel_rfl) ?_ | refine k_store rfl rfl rfl rfl (by exact z2) rfl (by exact y2 _ rfl) ?_ | refine k_store rfl rfl rfl rfl (by exact z2) rfl (by exact y2 _ (by assumption)) ?_ | refine k_load rfl rfl rfl (by exact w1 _) ?_ | refine k_load rfl rfl rfl (by exact w2 _) ?_ | refine k_load rfl rfl rfl (by exact n2 _) ?_ | refine k_load rfl rfl rfl (by exact n1 _) ?_ | refine k_move rfl rfl ?_ | refine k_assign rfl rfl ?_ | refine k_load rfl rfl rfl rfl ?_ | refine k_alloc rfl ?_ | refine k_box rfl rfl rfl ?_ | refine k_store rfl rfl rfl rfl rfl rfl rfl ?_ | refine k_extract rfl rfl rfl ?_ | refine k_fieldAddr rfl rfl rfl ?_ | refine k_field rfl rfl rfl ?_ | refine k_build rfl rfl rfl ?_ | refine k_call rfl A2 rfl (fa2 f1) (ca2 c1) (cl2 c2) ?_ | refine k_rem rfl rfl rfl (by decide) (by exact r2 ()) ?_ | refine k_append rfl rfl rfl (by first | rfl | exact trivial | (show 0 < _; omega)) (by first | rfl | (simp <;> omega)) (by first | rfl | (simp <;> omega)) rfl (by omega) rfl rfl rfl ?_ | refine k_slice rfl rfl rfl rfl ⟨by omega, by omega, by omega⟩ rfl rfl rfl ?_ | refine k_slice3 rfl rfl rfl rfl rfl ⟨by omega, by omega, by omega⟩ rfl rfl rfl ?_ | refine k_sliceA rfl rfl rfl rfl ⟨by omega, by omega, by omega, by omega⟩ rfl rfl ?_ | refine k_sliceE rfl rfl rfl rfl ⟨by omega, by omega, by omega, by omega⟩ rfl rfl rfl rfl ?_ | refine k_buildSlice (cs := []) rfl rfl rfl rfl rfl rfl rfl ?_ | refine k_buildSlice rfl rfl rfl rfl rfl rfl rfl ?_ | refine k_indexAddr rfl rfl rfl ⟨by omega, by omega⟩ ?_ | refine k_indexAddrs rfl rfl rfl ⟨by omega, by omega⟩ rfl ?_ | refine k_index rfl rfl rfl ⟨by omega, by omega⟩ rfl ?_ | refine k_loade rfl rfl rfl ?_ | refine k_fieldAddre rfl rfl rfl rfl ?_ | refine k_len rfl rfl ?_ | refine k_nilCheck rfl rfl rfl ?_ | refine k_pickT rfl rfl rfl ?_ | refine k_pickF rfl rfl rfl ?_ | refine k_addi rfl rfl rfl (by omega) ?_ | refine k_subi rfl rfl rfl (by omega) ?_ | refine k_negi rfl rfl (by omega) ?_ | refine k_not rfl rfl rfl ?_ | refine k_lssT rfl rfl rfl (by omega) ?_ | refine k_lssF rfl rfl rfl (by omega) ?_ | refine k_leqT rfl rfl rfl (by omega) ?_ | refine k_leqF rfl rfl rfl (by omega) ?_ | refine k_gtrT rfl rfl rfl (by omega) ?_ | refine k_gtrF rfl rfl rfl (by omega) ?_ | refine k_geqT rfl rfl rfl (by omega) ?_ | refine k_geqF rfl rfl rfl (by omega) ?_ | refine k_eqlT rfl rfl rfl (by omega) ?_ | refine k_eqlF rfl rfl rfl (by omega) ?_ | refine k_neqT rfl rfl rfl (by omega) ?_ | refine k_neqF rfl rfl rfl (by omega) ?_ | refine k_eqa rfl rfl rfl rfl rfl rfl ?_ | refine k_nea rfl rfl rfl rfl rfl rfl ?_ | refine k_makeFunc rfl rfl rfl ?_ | refine k_skip rfl ?_ | refine k_skip0 rfl ?_ | refine k_pick rfl rfl rfl rfl rfl ?_ | refine W_yes rfl ?_ | refine W_no rfl ?_)
  refine WL_round ?_
  repeat (first | with_reducible refine W_seq ?_ | with_reducible refine q_then ?_ | with_reducible refine q_thenr ?_ | with_reducible refine q_thenx ?_ | with_reducible refine W_block ?_ | with_reducible refine q_block ?_ | with_reducible refine q_blockr ?_ | with_reducible refine q_blockx ?_ | with_reducible refine W_ret ?_ | with_reducible refine W_skip ?_ | with_reducible refine W_label ?_ | with_reducible refine W_exit ?_ | with_reducible refine W_scope ?_ | with_reducible refine q_scope ?_ | with_reducible refine q_scoper ?_ | with_reducible refine q_scopex ?_ | (with_reducible refine R_nil ?_; try dsimp only [slots0, slots_ud, cells_U, agg_ud, drop0, dropS, takeS, take0, ud_nil, take_ud, take_ud0, drop_ud, drop_ud0, take_udk, D.cells, D.fz, D.fzs, List.take_succ_cons, List.take_zero, List.drop_succ_cons, List.drop_zero, List.cons_append, List.nil_append, List.append_eq, List.length_cons, List.length_nil, Nat.reduceAdd, Nat.reduceMul, Nat.reduceSub, Int.reduceAdd, Int.reduceSub, Int.reduceToNat, Int.reduceNeg, Int.reduceMul]) | refine q_blocky rfl ?_ | refine W_plain rfl ?_ | refine W_drawn mixed rfl ?_ | refine and_chk (by kernel_rfl) ?_ | refine k_store rfl rfl rfl rfl (by exact z3) rfl (by exact y3 _ rfl) ?_ | refine k_store rfl rfl rfl rfl (by exact z3) rfl (by exact y3 _ (by assumption)) ?_ | refine k_load rfl rfl rfl (by exact w2 _) ?_ | refine k_load rfl rfl rfl (by exact w3 _) ?_ | refine k_load rfl rfl rfl (by exact n3 _) ?_ | refine k_load rfl rfl rfl (by exact n2 _) ?_ | refine k_move rfl rfl ?_ | refine k_assign rfl rfl ?_ | refine k_load rfl rfl rfl rfl ?_ | refine k_alloc rfl ?_ | refine k_box rfl rfl rfl ?_ | refine k_store rfl rfl rfl rfl rfl rfl rfl ?_ | refine k_extract rfl rfl rfl ?_ | refine k_fieldAddr rfl rfl rfl ?_ | refine k_field rfl rfl rfl ?_ | refine k_build rfl rfl rfl ?_ | refine k_call rfl A3 rfl (fa2 f2) (ca2 c2) (cl2 c3) ?_ | refine k_rem rfl rfl rfl (by decide) (by exact r3 ()) ?_ | refine k_append rfl rfl rfl (by first | rfl | exact trivial | (show 0 < _; omega)) (by first | rfl | (simp <;> omega)) (by first | rfl | (simp <;> omega)) rfl (by omega) rfl rfl rfl ?_ | refine k_slice rfl rfl rfl rfl ⟨by omega, by omega, by omega⟩ rfl rfl rfl ?_ | refine k_slice3 rfl rfl rfl rfl rfl ⟨by omega, by omega, by omega⟩ rfl rfl rfl ?_ | refine k_sliceA rfl rfl rfl rfl ⟨by omega, by omega, by omega, by omega⟩ rfl rfl ?_ | refine k_sliceE rfl rfl rfl rfl ⟨by omega, by omega, by omega, by omega⟩ rfl rfl rfl rfl ?_ | refine k_buildSlice (cs := []) rfl rfl rfl rfl rfl rfl rfl ?_ | refine k_buildSlice rfl rfl rfl rfl rfl rfl rfl ?_ | refine k_indexAddr rfl rfl rfl ⟨by omega, by omega⟩ ?_ | refine k_indexAddrs rfl rfl rfl ⟨by omega, by omega⟩ rfl ?_ | refine k_index rfl rfl rfl ⟨by omega, by omega⟩ rfl ?_ | refine k_loade rfl rfl rfl ?_ | refine k_fieldAddre rfl rfl rfl rfl ?_ | refine k_len rfl rfl ?_ | refine k_nilCheck rfl rfl rfl ?_ | refine k_pickT rfl rfl rfl ?_ | refine k_pickF rfl rfl rfl ?_ | refine k_addi rfl rfl rfl (by omega) ?_ | refine k_subi rfl rfl rfl (by omega) ?_ | refine k_negi rfl rfl (by omega) ?_ | refine k_not rfl rfl rfl ?_ | refine k_lssT rfl rfl rfl (by omega) ?_ | refine k_lssF rfl rfl rfl (by omega) ?_ | refine k_leqT rfl rfl rfl (by omega) ?_ | refine k_leqF rfl rfl rfl (by omega) ?_ | refine k_gtrT rfl rfl rfl (by omega) ?_ | refine k_gtrF rfl rfl rfl (by omega) ?_ | refine k_geqT rfl rfl rfl (by omega) ?_ | refine k_geqF rfl rfl rfl (by omega) ?_ | refine k_eqlT rfl rfl rfl (by omega) ?_ | refine k_eqlF rfl rfl rfl (by omega) ?_ | refine k_neqT rfl rfl rfl (by omega) ?_ | refine k_neqF rfl rfl rfl (by omega) ?_ | refine k_eqa rfl rfl rfl rfl rfl rfl ?_ | refine k_nea rfl rfl rfl rfl rfl rfl ?_ | refine k_makeFunc rfl rfl rfl ?_ | refine k_skip rfl ?_ | refine k_skip0 rfl ?_ | refine k_pick rfl rfl rfl rfl rfl ?_ | refine W_yes rfl ?_ | refine W_no rfl ?_)
  refine WL_round ?_
  repeat (first | with_reducible refine W_seq ?_ | with_reducible refine q_then ?_ | with_reducible refine q_thenr ?_ | with_reducible refine q_thenx ?_ | with_reducible refine W_block ?_ | with_reducible refine q_block ?_ | with_reducible refine q_blockr ?_ | with_reducible refine q_blockx ?_ | with_reducible refine W_ret ?_ | with_reducible refine W_skip ?_ | with_reducible refine W_label ?_ | with_reducible refine W_exit ?_ | with_reducible refine W_scope ?_ | with_reducible refine q_scope ?_ | with_reducible refine q_scoper ?_ | with_reducible refine q_scopex ?_ | (with_reducible refine R_nil ?_; try dsimp only [slots0, slots_ud, cells_U, agg_ud, drop0, dropS, takeS, take0, ud_nil, take_ud, take_ud0, drop_ud, drop_ud0, take_udk, D.cells, D.fz, D.fzs, List.take_succ_cons, List.take_zero, List.drop_succ_cons, List.drop_zero, List.cons_append, List.nil_append, List.append_eq, List.length_cons, List.length_nil, Nat.reduceAdd, Nat.reduceMul, Nat.reduceSub, Int.reduceAdd, Int.reduceSub, Int.reduceToNat, Int.reduceNeg, Int.reduceMul]) | refine q_blocky rfl ?_ | refine W_plain rfl ?_ | refine W_drawn mixed rfl ?_ | refine and_chk (by kernel_rfl) ?_ | refine k_load rfl rfl rfl (by exact w3 _) ?_ | refine k_store rfl rfl rfl rfl (b_len lz) (b_fits _) (by exact b_put lz _ rfl) ?_ | refine k_load rfl rfl rfl (by exact hwZ _) ?_ | refine k_move rfl rfl ?_ | refine k_assign rfl rfl ?_ | refine k_load rfl rfl rfl rfl ?_ | refine k_alloc rfl ?_ | refine k_box rfl rfl rfl ?_ | refine k_store rfl rfl rfl rfl rfl rfl rfl ?_ | refine k_extract rfl rfl rfl ?_ | refine k_fieldAddr rfl rfl rfl ?_ | refine k_field rfl rfl rfl ?_ | refine k_build rfl rfl rfl ?_ | refine k_eqa rfl rfl rfl (lkb 32 _ lz) (lkb 32 _ lz) (b_eq _) ?_ | refine k_call rfl E rfl f3 (ca1 c3) hcz ?_ | refine k_call rfl hS rfl rfl rfl (bs_cl _) ?_ | refine k_call rfl hT rfl rfl rfl rfl ?_ | refine k_append rfl rfl rfl (by first | rfl | exact trivial | (show 0 < _; omega)) (by first | rfl | (simp <;> omega)) (by first | rfl | (simp <;> omega)) rfl (by omega) rfl rfl rfl ?_ | refine k_slice rfl rfl rfl rfl ⟨by omega, by omega, by omega⟩ rfl rfl rfl ?_ | refine k_slice3 rfl rfl rfl rfl rfl ⟨by omega, by omega, by omega⟩ rfl rfl rfl ?_ | refine k_sliceA rfl rfl rfl rfl ⟨by omega, by omega, by omega, by omega⟩ rfl rfl ?_ | refine k_sliceE rfl rfl rfl rfl ⟨by omega, by omega, by omega, by omega⟩ rfl rfl rfl rfl ?_ | refine k_buildSlice (cs := []) rfl rfl rfl rfl rfl rfl rfl ?_ | refine k_buildSlice rfl rfl rfl rfl rfl rfl rfl ?_ | refine k_indexAddr rfl rfl rfl ⟨by omega, by omega⟩ ?_ | refine k_indexAddrs rfl rfl rfl ⟨by omega, by omega⟩ rfl ?_ | refine k_index rfl rfl rfl ⟨by omega, by omega⟩ rfl ?_ | refine k_loade rfl rfl rfl ?_ | refine k_fieldAddre rfl rfl rfl rfl ?_ | refine k_len rfl rfl ?_ | refine k_nilCheck rfl rfl rfl ?_ | refine k_pickT rfl rfl rfl ?_ | refine k_pickF rfl rfl rfl ?_ | refine k_addi rfl rfl rfl (by omega) ?_ | refine k_subi rfl rfl rfl (by omega) ?_ | refine k_negi rfl rfl (by omega) ?_ | refine k_not rfl rfl rfl ?_ | refine k_lssT rfl rfl rfl (by omega) ?_ | refine k_lssF rfl rfl rfl (by omega) ?_ | refine k_leqT rfl rfl rfl (by omega) ?_ | refine k_leqF rfl rfl rfl (by omega) ?_ | refine k_gtrT rfl rfl rfl (by omega) ?_ | refine k_gtrF rfl rfl rfl (by omega) ?_ | refine k_geqT rfl rfl rfl (by omega) ?_ | refine k_geqF rfl rfl rfl (by omega) ?_ | refine k_eqlT rfl rfl rfl (by omega) ?_ | refine k_eqlF rfl rfl rfl (by omega) ?_ | refine k_neqT rfl rfl rfl (by omega) ?_ | refine k_neqF rfl rfl rfl (by omega) ?_ | refine k_eqa rfl rfl rfl rfl rfl rfl ?_ | refine k_nea rfl rfl rfl rfl rfl rfl ?_ | refine k_makeFunc rfl rfl rfl ?_ | refine k_skip rfl ?_ | refine k_skip0 rfl ?_ | refine k_pick rfl rfl rfl rfl rfl ?_ | refine W_yes rfl ?_ | refine W_no rfl ?_)
  (first | with_reducible refine q_endr ?_ | with_reducible refine q_endn ?_); refine rets1 Tryd.results5 (by first | exact RetV.tmp _ _ rfl | exact RetV.cell _ _ _ _ _ _ _ _ inferInstance rfl rfl rfl) ?_
  rfl

theorem pur (b : List UInt8) (u v : Int) : Pur Tryd.prog 5 [.slice .frozen b.length (bs b), .int .i64 u, .int .i64 v] (.bool true) := by
  obtain ⟨c, hc⟩ : ∃ c, b.take 400 = c := ⟨_, rfl⟩
  obtain ⟨n, hn⟩ : ∃ n, c.length = n := ⟨_, rfl⟩
  have u0 := Int.emod_nonneg u (show (n : Int) + 1 ≠ 0 by omega)
  have u1 := Int.emod_lt_of_pos u (show (0 : Int) < (n : Int) + 1 by omega)
  obtain ⟨a1, e1⟩ : ∃ a : Nat, u % ((n : Int) + 1) = a := ⟨_, (Int.toNat_of_nonneg u0).symm⟩
  have v0 := Int.emod_nonneg v (show (n : Int) - a1 + 1 ≠ 0 by omega)
  have v1 := Int.emod_lt_of_pos v (show (0 : Int) < (n : Int) - a1 + 1 by omega)
  obtain ⟨a2, e2⟩ : ∃ a : Nat, v % ((n : Int) - a1 + 1) = a := ⟨_, (Int.toNat_of_nonneg v0).symm⟩
  have hp : c = c.take a1 ++ (c.drop a1).take a2 ++ (c.drop a1).drop a2 := by
    rw [List.append_assoc, List.take_append_drop, List.take_append_drop]
  exact pur_at b _ _ _ c hc hp u v b.length n a1 a2 (n - a1 - a2) rfl hn (by rw [List.length_take]; omega) (by rw [List.length_take, List.length_drop]; omega) (by rw [List.length_drop, List.length_drop]; omega) e1 e2
theorem walk {w : World} {v : Value} (b : List UInt8) (hb : Rep (bare (allhw w)) w (.slice .frozen b.length (bs b)) v) (u c : Int) (hG : GTab w []) : Calls Tryd.prog 5 #[v, .int .i64 u, .int .i64 c] w fun e w' => e = .returned (.bool true) ∧ New w w' :=
  calls_of_purS (pur b u c) (.cons hb (.cons (.int _ _) (.cons (.int _ _) .nil))) hG

set_option maxRecDepth 100000 in
theorem lifted (os : Os) (started : os.Started) (H : Type) (enc : TypeId × Value → H) :
    ReturnsInHanded {} Tryd.checked os 5 .any (fun w args => (Rows.keccakPartsSpec.pre enc Tryd.prog Tryd.f5 [] false w args ∧ laidMetH Tryd.prog laidL w) ∧ sizedMet enc Tryd.prog Tryd.f5 (OpenSpec.ofChange Rows.keccakPartsSpec) false w args) (Rows.keccakPartsSpec.post enc Tryd.prog Tryd.f5 false true false false) := by
  refine returnsInHanded_of_change_and (C := Tryd.checked) (X := fun w _ => laidMetH Tryd.prog laidL w) (fun _ _ _ hh h => h.of_heap hh) own started (by kernel_rfl) Tryd.func5
    (ChangeSpec.witness_shaped (enc := enc) (C := Tryd.checked) (os := os) (X := fun w _ => laidMetH Tryd.prog laidL w) false (World.doorLaid Tryd.prog 400 os) #[.slice none 0 0, .int .i64 0, .int .i64 0] 8 rfl (World.shaped_of_RefB (by kernel_rfl) (by kernel_rfl)) (by kernel_rfl) (by kernel_rfl) (by kernel_rfl) (door_met os _)) ?_
  intro W base args ds gs before hval0 hW _ _ hL _
  have hG := tabs_of hL
  have hval : ∀ (j : Nat) t v, Tryd.f5.params[j]? = some t → args[j]? = some v → Value.okWide Tryd.prog W .any base t v := hval0
  have hW' := hW
  obtain ⟨p, q, hA0, hV, rfl, hfz, hnd⟩ := hW
  have hA : DataW.TrodAll enc Tryd.prog W 0 (fun _ => true) true Tryd.f5.params.toList args.toList ds p := hA0
  rw [Tryd.params5] at hA hval
  obtain ⟨v0, vs0, d0, ds0, p0, q0, hargs, rfl, rfl, h0, r0⟩ := trodAll_cons hA
  obtain ⟨v1, vs1, d1, ds1, p1, q1, rfl, rfl, rfl, h1, r1⟩ := trodAll_cons r0
  obtain ⟨v2, vs2, d2, ds2, p2, q2, rfl, rfl, rfl, h2, r2⟩ := trodAll_cons r1
  obtain ⟨rfl, rfl, rfl⟩ := trodAll_nil r2
  obtain rfl : args = #[v0, v1, v2] := by cases args; simp_all
  obtain ⟨rfl, rfl⟩ := trodVars_none hV
  obtain ⟨l1, hl1⟩ := open_bytes (hval 0 35 v0 rfl rfl) h0
  obtain ⟨n2, rfl, rfl, rfl, wn2⟩ := open_int Tryd.underlying3 (hval 1 3 v1 rfl rfl) h1
  obtain ⟨n3, rfl, rfl, rfl, wn3⟩ := open_int Tryd.underlying3 (hval 2 3 v2 rfl rfl) h2
  refine (walk l1 hl1 n2 n3 hG).mono fun e W' ⟨he, hN⟩ => ?_
  subst he
  exact ⟨_, rfl, law_post laidOut (by kernel_rfl) (by kernel_rfl) Tryd.underlying4 rfl hW' rfl hN⟩

theorem holds : Rows.KeccakPartsSaid :=
  OpenClaim.holds_of_wide 5 Tryd.f5 rfl rfl rfl rfl rfl rfl rfl ⟨rfl, rfl, rfl, rfl, rfl⟩ rfl rfl rfl rfl rfl (by kernel_rfl) Tryd.func5 (by kernel_rfl)
    (of_decide_eq_true (by kernel_rfl)) (by unfold Func.isWrapper; first | (rw [if_pos (by decide +kernel)]; kernel_rfl) | (rw [if_neg (by decide +kernel)]; exact ⟨rfl, rfl⟩))
    (fun os started H enc _ => lifted os started H enc)

theorem card : Rows.KeccakPartsCardSaid :=
  Claim7.holds_tied_plain_at .later [] [.data, .data] true (true, "7cf815d76b0d3a97adafd62661efd760fe23b03e03c35bf17f44aca8dcd2f889") false
    holds (fun _ h => by cases h) (by kernel_rfl) (fun _ h => by cases h) keccakParts_row_tie rfl ⟨rfl, rfl⟩ (by kernel_rfl) rfl
    (fun f fn hf hfn => by
      obtain rfl : f = 5 := Option.some.inj ((show Tryd.prog.funcNamed "bascule/basculekeep.KeccakParts" = some 5 by kernel_rfl).symm.trans hf) |>.symm
      obtain rfl : fn = Tryd.f5 := (Option.some.inj (Tryd.func5.symm.trans hfn)).symm
      exact ⟨by kernel_rfl, fun j t ht => by
        rw [Tryd.params5] at ht
        have hall : (Tryd.f5.params.all fun u => !Tryd.prog.wantsStandIn u) = true := by kernel_rfl
        have hm := Array.mem_of_getElem? ht
        rw [Tryd.params5] at hall
        exact (show Tryd.prog.wantsStandIn t = false by simpa using Array.all_eq_true_iff_forall_mem.1 hall t hm)⟩)
    (by kernel_rfl)
#print axioms card
end Go.Proofs.YtokijcdanegooaaDoor.keccakParts
