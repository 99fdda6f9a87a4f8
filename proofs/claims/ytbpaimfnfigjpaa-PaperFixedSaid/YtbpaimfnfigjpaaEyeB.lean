/- The eye reads a message. Conditions: what is read is short. -/
import Derived.Test.YtbpaimfnfigjpaaEye
import Derived.Test.YtbpaimfnfigjpaaPaper1
namespace Go.Proofs.Ytbpaimfnfigjpaa
open Go.RowKit Go.Lib Go.IntWalk
set_option linter.unusedVariables false
set_option maxRecDepth 100000

/-- a message that was read: its numbers may be any -/
structure BodyI where
  t : Int
  n : Int
  c : Int
  e : List UInt8
  u : Int
  v : Int
  l : List UInt8
/-- a message's cells, the last three by themselves -/
def bx (t n c : Int) (e : List UInt8) (tl : List D) : List D := .int .i64 t :: .int .i64 n :: .int .i64 c :: (bs e ++ tl)
def BodyI.cells (b : BodyI) : List D := bx b.t b.n b.c b.e [.int .i64 b.u, .int .i64 b.v, .slice .frozen b.l.length (bs b.l)]
section
variable {t n c : Int} {e : List UInt8} (h : e.length = 32)
include h
theorem bx_len (tl : List D) (ht : tl.length = 3) : (bx t n c e tl).length = 38 := by
  unfold bx
  simp only [List.length_cons, List.length_append, bs_len, h, ht]
theorem bx_all (tl : List D) (ht : tl.length = 3) (ze : List D) : cut ⟨true, 38, ze⟩ 0 (bx t n c e tl) = some (.agg (bx t n c e tl)) := by
  unfold cut
  simp only [cond_true, Nat.zero_add, List.drop_zero]
  rw [bx_len h tl ht, List.take_of_length_le (by rw [bx_len h tl ht]; exact Nat.le_refl _)]
  rfl
theorem bx_lay (tl : List D) (ht : tl.length = 3) (cs : List D) (hc : cs.length = 38) : splice 0 (bx t n c e tl) cs = some (bx t n c e tl) := by
  unfold splice
  rw [Nat.ble_eq_true_of_le (by rw [bx_len h tl ht, hc]; exact Nat.le_refl _), cond_true, Nat.zero_add, List.drop_of_length_le (by rw [bx_len h tl ht, hc]; exact Nat.le_refl _)]
  simp
theorem bx_put (a b d x : D) (i : Nat) (tl : List D) (hi : (i = 0 ∧ tl = [x, b, d]) ∨ (i = 1 ∧ tl = [a, x, d]) ∨ (i = 2 ∧ tl = [a, b, x])) (j : Nat) (hj : j = 35 + i) : splice j [x] (bx t n c e [a, b, d]) = some (bx t n c e tl) := by
  subst hj
  unfold splice
  rw [Nat.ble_eq_true_of_le (by rw [bx_len h _ rfl]; simp; omega), cond_true]
  congr 1
  unfold bx
  rw [show 35 + i = 32 + i + 1 + 1 + 1 from by omega, show 32 + i + 1 + 1 + 1 + [x].length = (32 + (i + 1)) + 1 + 1 + 1 from by simp; omega]
  simp only [List.take_succ_cons, List.drop_succ_cons]
  rw [List.take_append, List.drop_append, List.take_of_length_le (by rw [bs_len, h]; omega), List.drop_of_length_le (by rw [bs_len, h]; omega), bs_len, h, Nat.add_sub_cancel_left, Nat.add_sub_cancel_left]
  rcases hi with ⟨rfl, rfl⟩ | ⟨rfl, rfl⟩ | ⟨rfl, rfl⟩ <;> simp
theorem bx_e (a b d : D) : splice 3 (bs e) (.int .i64 t :: .int .i64 n :: .int .i64 c :: (List.replicate 32 (.int .u8 0) ++ [a, b, d])) = some (bx t n c e [a, b, d]) := by
  unfold splice bx
  rw [Nat.ble_eq_true_of_le (by rw [bs_len, h]; exact (by decide : 3 + 32 ≤ 38)), cond_true, bs_len, h]
  rfl
end
theorem bx_fz (t n c : Int) (e : List UInt8) (a b : D) (k : Tok) (m : Nat) (z : List D) : Up (.agg (bx t n c e [a, b, .slice k m z])) (.agg (bx t n c e [a, b, .slice .frozen m z])) := by
  refine Up.agg _ _ (by unfold bx; simp) fun i d d' hd hd' => ?_
  have e1 : ∀ s : D, bx t n c e [a, b, s] = bx t n c e [a, b] ++ [s] := fun s => by unfold bx; simp
  rw [e1] at hd hd'
  rcases Nat.lt_or_ge i (bx t n c e [a, b]).length with h | h
  · rw [List.getElem?_append_left h] at hd hd'
    rw [hd] at hd'
    cases hd'
    exact Up.refl _
  · rw [List.getElem?_append_right h] at hd hd'
    generalize i - _ = j at hd hd'
    match j with
    | 0 =>
      simp at hd hd'
      subst hd; subst hd'
      exact Up.fz _ _ _
    | j + 1 => simp at hd
theorem BodyI.cl (b : BodyI) : D.cl (.agg b.cells) = true := by
  show (true && (true && (true && D.cls (bs b.e ++ _)))) = true
  rw [bs_cls_app]; rfl

/-- what an eye reads of a message, and what it sees then -/
def bodyE (y : Ey) : BodyI × Ey :=
  let r1 := numberE y 8
  let r2 := numberE r1.2 4
  let r3 := numberE r2.2 2
  let r4 := takeE r3.2 32
  let r5 := numberE r4.2 8
  let r6 := numberE r5.2 1
  (⟨r1.1, r2.1, r3.1, r4.1, r5.1, r6.1, r6.2.1⟩, r6.2)
theorem takeE_le (y : Ey) (n : Nat) : (takeE y n).2.1.length ≤ y.1.length := by
  unfold takeE
  split
  · simp
  · simp
theorem numberE_le (y : Ey) (n : Nat) : (numberE y n).2.1.length ≤ y.1.length := takeE_le y n
set_option maxHeartbeats 8000000 in
theorem eBody_ok (y : Ey) (hy : y.1.length ≤ 140737488351232) : Fn Try.prog 28 1 [.ptr 0 0] (eyM y) (.agg (bodyE y).1.cells) (eyM (bodyE y).2) := by
  unfold bodyE
  dsimp only
  have c1 := eNumber_ok y 8 (by decide) hy
  have l1 := numberE_le y 8
  generalize numberE y 8 = r1 at *
  obtain ⟨t, y1⟩ := r1
  dsimp only at c1 l1 ⊢
  have c2 := eNumber_ok y1 4 (by decide) (by omega)
  have l2 := numberE_le y1 4
  generalize numberE y1 4 = r2 at *
  obtain ⟨n, y2⟩ := r2
  dsimp only at c2 l2 ⊢
  have c3 := eNumber_ok y2 2 (by decide) (by omega)
  have l3 := numberE_le y2 2
  generalize numberE y2 2 = r3 at *
  obtain ⟨c, y3⟩ := r3
  dsimp only at c3 l3 ⊢
  have c4 := eWord_ok y3 (by omega)
  have l4 := takeE_le y3 32
  have w4 := takeE_len y3 32
  generalize takeE y3 32 = r4 at *
  obtain ⟨e, y4⟩ := r4
  dsimp only at c4 l4 w4 ⊢
  have c5 := eNumber_ok y4 8 (by decide) (by omega)
  have l5 := numberE_le y4 8
  generalize numberE y4 8 = r5 at *
  obtain ⟨u, y5⟩ := r5
  dsimp only at c5 l5 ⊢
  have c6 := eNumber_ok y5 1 (by decide) (by omega)
  have l6 := numberE_le y5 1
  generalize numberE y5 1 = r6 at *
  obtain ⟨v, y6⟩ := r6
  dsimp only at c6 l6 ⊢
  have l6' : y6.1.length ≤ 140737488351232 := by omega
  clear l1 l2 l3 l4 l5 l6
  have hcl := BodyI.cl ⟨t, n, c, e, u, v, y6.1⟩
  unfold BodyI.cells at hcl ⊢
  dsimp only at hcl ⊢
  have hL6 : y6.1.length * 1 = (bs y6.1).length := by rw [bs_len]; omega
  unfold eyM eyC at *
  generalize bs y6.1 = z6 at *
  generalize y6.1.length = L6 at *
  generalize y6.2 = k6 at *
  generalize bs y5.1 = z5 at *
  generalize y5.1.length = L5 at *
  generalize y5.2 = k5 at *
  generalize bs y4.1 = z4 at *
  generalize y4.1.length = L4 at *
  generalize y4.2 = k4 at *
  generalize bs y3.1 = z3 at *
  generalize y3.1.length = L3 at *
  generalize y3.2 = k3 at *
  generalize bs y2.1 = z2 at *
  generalize y2.1.length = L2 at *
  generalize y2.2 = k2 at *
  generalize bs y1.1 = z1 at *
  generalize y1.1.length = L1 at *
  generalize y1.2 = k1 at *
  generalize bs y.1 = z at *
  generalize y.1.length = L at *
  generalize y.2 = k0 at *
  have p1 : splice 0 [.int .i64 t] (bx 0 0 0 (List.replicate 32 0) [.int .i64 0, .int .i64 0, .slice .nil 0 []]) = some (bx t 0 0 (List.replicate 32 0) [.int .i64 0, .int .i64 0, .slice .nil 0 []]) := rfl
  have p2 : splice 1 [.int .i64 n] (bx t 0 0 (List.replicate 32 0) [.int .i64 0, .int .i64 0, .slice .nil 0 []]) = some (bx t n 0 (List.replicate 32 0) [.int .i64 0, .int .i64 0, .slice .nil 0 []]) := rfl
  have p3 : splice 2 [.int .i64 c] (bx t n 0 (List.replicate 32 0) [.int .i64 0, .int .i64 0, .slice .nil 0 []]) = some (bx t n c (List.replicate 32 0) [.int .i64 0, .int .i64 0, .slice .nil 0 []]) := rfl
  have p4 : splice 3 (bs e) (bx t n c (List.replicate 32 0) [.int .i64 0, .int .i64 0, .slice .nil 0 []]) = some (bx t n c e [.int .i64 0, .int .i64 0, .slice .nil 0 []]) := bx_e (t := t) (n := n) (c := c) w4 (.int .i64 0) (.int .i64 0) (.slice .nil 0 [])
  have p5 := bx_put (t := t) (n := n) (c := c) w4 (.int .i64 0) (.int .i64 0) (.slice .nil 0 []) (.int .i64 u) 0 _ (.inl ⟨rfl, rfl⟩)
  have p6 := bx_put (t := t) (n := n) (c := c) w4 (.int .i64 u) (.int .i64 0) (.slice .nil 0 []) (.int .i64 v) 1 _ (.inr (.inl ⟨rfl, rfl⟩))
  have p7 := bx_put (t := t) (n := n) (c := c) w4 (.int .i64 u) (.int .i64 v) (.slice .nil 0 []) (.slice (.own 4) L6 z6) 2 _ (.inr (.inr ⟨rfl, rfl⟩))
  have lall := bx_all (t := t) (n := n) (c := c) w4 [.int .i64 u, .int .i64 v, .slice (.own 4) L6 z6] rfl
  have llay := bx_lay (t := t) (n := n) (c := c) w4 [.int .i64 u, .int .i64 v, .slice (.own 4) L6 z6] rfl
  have llen := bx_len (t := t) (n := n) (c := c) w4 [.int .i64 u, .int .i64 v, .slice (.own 4) L6 z6] rfl
  have hup := bx_fz t n c e (.int .i64 u) (.int .i64 v) (.own 4) L6 z6
  have hfull := (D.cl_ren (fun l => l) (below 5) _ hcl).2
  have hren := (D.cl_ren (fun l => l) (fun _ => true) _ hcl).1
  generalize bx t n c e [.int .i64 u, .int .i64 v, .slice (.own 4) L6 z6] = X7 at *
  generalize bx t n c e [.int .i64 u, .int .i64 v, .slice .frozen L6 z6] = X8 at *
  generalize bx t n c e [.int .i64 u, .int .i64 v, .slice .nil 0 []] = X6 at *
  generalize bx t n c e [.int .i64 u, .int .i64 0, .slice .nil 0 []] = X5 at *
  generalize bx t n c e [.int .i64 0, .int .i64 0, .slice .nil 0 []] = X4 at *
  generalize bx t n c (List.replicate 32 0) [.int .i64 0, .int .i64 0, .slice .nil 0 []] = X3 at *
  generalize bx t n 0 (List.replicate 32 0) [.int .i64 0, .int .i64 0, .slice .nil 0 []] = X2 at *
  generalize bx t 0 0 (List.replicate 32 0) [.int .i64 0, .int .i64 0, .slice .nil 0 []] = X1 at *
  have hce : D.cl (.agg (bs e)) = true := bs_cl _
  have hbe : ∀ p : Nat → Bool, D.lall p (.agg (bs e)) = true := fun p => (D.cl_ren (fun l => l) p _ hce).2
  have hbr : D.ren (fun l => l) (.agg (bs e)) = .agg (bs e) := (D.cl_ren (fun l => l) (fun _ => true) _ hce).1
  refine fn_intro Try.func28 rfl Try.ntmps28 rfl fun B => ?_
  repeat (first | with_reducible (first | refine W_seq ?_ | refine q_then ?_ | refine q_thenr ?_ | refine q_thenx ?_ | refine W_block ?_ | refine q_block ?_ | refine q_blockr ?_ | refine q_blockx ?_ | refine W_ret ?_ | refine W_skip ?_ | refine W_label ?_ | refine W_exit ?_ | refine W_scope ?_ | refine q_scope ?_ | refine q_scoper ?_ | refine q_scopex ?_) | (with_reducible refine R_nil ?_; try dsimp only [slots0, slots_ud, cells_U, agg_ud, drop0, dropS, takeS, take0, ud_nil, take_ud, take_ud0, drop_ud, drop_ud0, take_udk, D.cells, D.fz, D.fzs, List.take_succ_cons, List.take_zero, List.drop_succ_cons, List.drop_zero, List.cons_append, List.nil_append, List.append_eq, List.length_cons, List.length_nil, Nat.reduceAdd, Nat.reduceMul, Nat.reduceSub, Int.reduceAdd, Int.reduceSub, Int.reduceToNat, Int.reduceNeg, Int.reduceMul]) | refine q_blocky rfl ?_ | refine W_plain rfl ?_ | refine W_drawn mixed rfl ?_ | refine and_chk (by kernel_rfl) ?_ | refine k_store rfl rfl rfl rfl rfl rfl (by exact p1) ?_ | refine k_move rfl rfl ?_ | refine k_load rfl rfl rfl rfl ?_ | refine k_alloc rfl ?_ | refine k_store rfl rfl rfl rfl rfl rfl rfl ?_ | refine k_fieldAddr rfl rfl rfl ?_ | refine k_callf (fun l => l) [0] (3) rfl (c1) rfl (by first | exact Ups.refl _ | assumption | ((repeat refine Ups.cons (by first | exact Up.refl _ | exact Up.nil _ | exact Up.fz _ _ _) ?_); exact Ups.nil)) (rfl) (by (repeat (first | refine ⟨⟨rfl, _, rfl, (by first | exact Ups.refl _ | assumption | ((repeat refine Ups.cons (by first | exact Up.refl _ | exact Up.nil _ | exact Up.fz _ _ _) ?_); exact Ups.nil)), rfl⟩, ?_⟩ | refine ⟨⟨rfl, rfl⟩, ?_⟩)); exact trivial) rfl rfl rfl rfl (rfl) (rfl) rfl rfl rfl rfl ?_ | refine k_append rfl rfl rfl (by first | rfl | exact trivial | (show 0 < _; omega)) (by first | rfl | (simp <;> omega)) (by first | rfl | (simp <;> omega)) rfl (by omega) rfl rfl rfl ?_ | refine k_slice rfl rfl rfl rfl ⟨by omega, by omega, by omega⟩ rfl rfl rfl ?_ | refine k_slice3 rfl rfl rfl rfl rfl ⟨by omega, by omega, by omega⟩ rfl rfl rfl ?_ | refine k_sliceA rfl rfl rfl rfl ⟨by omega, by omega, by omega, by omega⟩ rfl rfl ?_ | refine k_sliceE rfl rfl rfl rfl ⟨by omega, by omega, by omega, by omega⟩ rfl rfl rfl rfl ?_ | refine k_buildSlice (cs := []) rfl rfl rfl rfl rfl rfl rfl ?_ | refine k_buildSlice rfl rfl rfl rfl rfl rfl rfl ?_ | refine k_loade rfl rfl rfl ?_ | refine k_fieldAddre rfl rfl rfl rfl ?_ | refine k_nilCheck rfl rfl rfl ?_ | refine W_yes rfl ?_ | refine W_no rfl ?_)
  repeat (first | with_reducible (first | refine W_seq ?_ | refine q_then ?_ | refine q_thenr ?_ | refine q_thenx ?_ | refine W_block ?_ | refine q_block ?_ | refine q_blockr ?_ | refine q_blockx ?_ | refine W_ret ?_ | refine W_skip ?_ | refine W_label ?_ | refine W_exit ?_ | refine W_scope ?_ | refine q_scope ?_ | refine q_scoper ?_ | refine q_scopex ?_) | (with_reducible refine R_nil ?_; try dsimp only [slots0, slots_ud, cells_U, agg_ud, drop0, dropS, takeS, take0, ud_nil, take_ud, take_ud0, drop_ud, drop_ud0, take_udk, D.cells, D.fz, D.fzs, List.take_succ_cons, List.take_zero, List.drop_succ_cons, List.drop_zero, List.cons_append, List.nil_append, List.append_eq, List.length_cons, List.length_nil, Nat.reduceAdd, Nat.reduceMul, Nat.reduceSub, Int.reduceAdd, Int.reduceSub, Int.reduceToNat, Int.reduceNeg, Int.reduceMul]) | refine q_blocky rfl ?_ | refine W_plain rfl ?_ | refine W_drawn mixed rfl ?_ | refine and_chk (by kernel_rfl) ?_ | refine k_store rfl rfl rfl rfl rfl rfl (by exact p2) ?_ | refine k_move rfl rfl ?_ | refine k_load rfl rfl rfl rfl ?_ | refine k_alloc rfl ?_ | refine k_store rfl rfl rfl rfl rfl rfl rfl ?_ | refine k_fieldAddr rfl rfl rfl ?_ | refine k_callf (fun l => l) [0] (3) rfl (c2) rfl (by first | exact Ups.refl _ | assumption | ((repeat refine Ups.cons (by first | exact Up.refl _ | exact Up.nil _ | exact Up.fz _ _ _) ?_); exact Ups.nil)) (rfl) (by (repeat (first | refine ⟨⟨rfl, _, rfl, (by first | exact Ups.refl _ | assumption | ((repeat refine Ups.cons (by first | exact Up.refl _ | exact Up.nil _ | exact Up.fz _ _ _) ?_); exact Ups.nil)), rfl⟩, ?_⟩ | refine ⟨⟨rfl, rfl⟩, ?_⟩)); exact trivial) rfl rfl rfl rfl (rfl) (rfl) rfl rfl rfl rfl ?_ | refine k_append rfl rfl rfl (by first | rfl | exact trivial | (show 0 < _; omega)) (by first | rfl | (simp <;> omega)) (by first | rfl | (simp <;> omega)) rfl (by omega) rfl rfl rfl ?_ | refine k_slice rfl rfl rfl rfl ⟨by omega, by omega, by omega⟩ rfl rfl rfl ?_ | refine k_slice3 rfl rfl rfl rfl rfl ⟨by omega, by omega, by omega⟩ rfl rfl rfl ?_ | refine k_sliceA rfl rfl rfl rfl ⟨by omega, by omega, by omega, by omega⟩ rfl rfl ?_ | refine k_sliceE rfl rfl rfl rfl ⟨by omega, by omega, by omega, by omega⟩ rfl rfl rfl rfl ?_ | refine k_buildSlice (cs := []) rfl rfl rfl rfl rfl rfl rfl ?_ | refine k_buildSlice rfl rfl rfl rfl rfl rfl rfl ?_ | refine k_loade rfl rfl rfl ?_ | refine k_fieldAddre rfl rfl rfl rfl ?_ | refine k_nilCheck rfl rfl rfl ?_ | refine W_yes rfl ?_ | refine W_no rfl ?_)
  repeat (first | with_reducible (first | refine W_seq ?_ | refine q_then ?_ | refine q_thenr ?_ | refine q_thenx ?_ | refine W_block ?_ | refine q_block ?_ | refine q_blockr ?_ | refine q_blockx ?_ | refine W_ret ?_ | refine W_skip ?_ | refine W_label ?_ | refine W_exit ?_ | refine W_scope ?_ | refine q_scope ?_ | refine q_scoper ?_ | refine q_scopex ?_) | (with_reducible refine R_nil ?_; try dsimp only [slots0, slots_ud, cells_U, agg_ud, drop0, dropS, takeS, take0, ud_nil, take_ud, take_ud0, drop_ud, drop_ud0, take_udk, D.cells, D.fz, D.fzs, List.take_succ_cons, List.take_zero, List.drop_succ_cons, List.drop_zero, List.cons_append, List.nil_append, List.append_eq, List.length_cons, List.length_nil, Nat.reduceAdd, Nat.reduceMul, Nat.reduceSub, Int.reduceAdd, Int.reduceSub, Int.reduceToNat, Int.reduceNeg, Int.reduceMul]) | refine q_blocky rfl ?_ | refine W_plain rfl ?_ | refine W_drawn mixed rfl ?_ | refine and_chk (by kernel_rfl) ?_ | refine k_store rfl rfl rfl rfl rfl rfl (by exact p3) ?_ | refine k_move rfl rfl ?_ | refine k_load rfl rfl rfl rfl ?_ | refine k_alloc rfl ?_ | refine k_store rfl rfl rfl rfl rfl rfl rfl ?_ | refine k_fieldAddr rfl rfl rfl ?_ | refine k_callf (fun l => l) [0] (3) rfl (c3) rfl (by first | exact Ups.refl _ | assumption | ((repeat refine Ups.cons (by first | exact Up.refl _ | exact Up.nil _ | exact Up.fz _ _ _) ?_); exact Ups.nil)) (rfl) (by (repeat (first | refine ⟨⟨rfl, _, rfl, (by first | exact Ups.refl _ | assumption | ((repeat refine Ups.cons (by first | exact Up.refl _ | exact Up.nil _ | exact Up.fz _ _ _) ?_); exact Ups.nil)), rfl⟩, ?_⟩ | refine ⟨⟨rfl, rfl⟩, ?_⟩)); exact trivial) rfl rfl rfl rfl (rfl) (rfl) rfl rfl rfl rfl ?_ | refine k_append rfl rfl rfl (by first | rfl | exact trivial | (show 0 < _; omega)) (by first | rfl | (simp <;> omega)) (by first | rfl | (simp <;> omega)) rfl (by omega) rfl rfl rfl ?_ | refine k_slice rfl rfl rfl rfl ⟨by omega, by omega, by omega⟩ rfl rfl rfl ?_ | refine k_slice3 rfl rfl rfl rfl rfl ⟨by omega, by omega, by omega⟩ rfl rfl rfl ?_ | refine k_sliceA rfl rfl rfl rfl ⟨by omega, by omega, by omega, by omega⟩ rfl rfl ?_ | refine k_sliceE rfl rfl rfl rfl ⟨by omega, by omega, by omega, by omega⟩ rfl rfl rfl rfl ?_ | refine k_buildSlice (cs := []) rfl rfl rfl rfl rfl rfl rfl ?_ | refine k_buildSlice rfl rfl rfl rfl rfl rfl rfl ?_ | refine k_loade rfl rfl rfl ?_ | refine k_fieldAddre rfl rfl rfl rfl ?_ | refine k_nilCheck rfl rfl rfl ?_ | refine W_yes rfl ?_ | refine W_no rfl ?_)
  repeat (first | with_reducible (first | refine W_seq ?_ | refine q_then ?_ | refine q_thenr ?_ | refine q_thenx ?_ | refine W_block ?_ | refine q_block ?_ | refine q_blockr ?_ | refine q_blockx ?_ | refine W_ret ?_ | refine W_skip ?_ | refine W_label ?_ | refine W_exit ?_ | refine W_scope ?_ | refine q_scope ?_ | refine q_scoper ?_ | refine q_scopex ?_) | (with_reducible refine R_nil ?_; try dsimp only [slots0, slots_ud, cells_U, agg_ud, drop0, dropS, takeS, take0, ud_nil, take_ud, take_ud0, drop_ud, drop_ud0, take_udk, D.cells, D.fz, D.fzs, List.take_succ_cons, List.take_zero, List.drop_succ_cons, List.drop_zero, List.cons_append, List.nil_append, List.append_eq, List.length_cons, List.length_nil, Nat.reduceAdd, Nat.reduceMul, Nat.reduceSub, Int.reduceAdd, Int.reduceSub, Int.reduceToNat, Int.reduceNeg, Int.reduceMul]) | refine q_blocky rfl ?_ | refine W_plain rfl ?_ | refine W_drawn mixed rfl ?_ | refine and_chk (by kernel_rfl) ?_ | refine k_store rfl rfl rfl rfl (b_len w4) (b_fits _) (by exact p4) ?_ | refine k_move rfl rfl ?_ | refine k_load rfl rfl rfl rfl ?_ | refine k_alloc rfl ?_ | refine k_store rfl rfl rfl rfl rfl rfl rfl ?_ | refine k_fieldAddr rfl rfl rfl ?_ | refine k_callf (fun l => l) [0] (3) rfl (c4) rfl (by first | exact Ups.refl _ | assumption | ((repeat refine Ups.cons (by first | exact Up.refl _ | exact Up.nil _ | exact Up.fz _ _ _) ?_); exact Ups.nil)) (rfl) (by (repeat (first | refine ⟨⟨rfl, _, rfl, (by first | exact Ups.refl _ | assumption | ((repeat refine Ups.cons (by first | exact Up.refl _ | exact Up.nil _ | exact Up.fz _ _ _) ?_); exact Ups.nil)), rfl⟩, ?_⟩ | refine ⟨⟨rfl, rfl⟩, ?_⟩)); exact trivial) rfl rfl rfl rfl (hbe _) (hbr) rfl rfl rfl rfl ?_ | refine k_append rfl rfl rfl (by first | rfl | exact trivial | (show 0 < _; omega)) (by first | rfl | (simp <;> omega)) (by first | rfl | (simp <;> omega)) rfl (by omega) rfl rfl rfl ?_ | refine k_slice rfl rfl rfl rfl ⟨by omega, by omega, by omega⟩ rfl rfl rfl ?_ | refine k_slice3 rfl rfl rfl rfl rfl ⟨by omega, by omega, by omega⟩ rfl rfl rfl ?_ | refine k_sliceA rfl rfl rfl rfl ⟨by omega, by omega, by omega, by omega⟩ rfl rfl ?_ | refine k_sliceE rfl rfl rfl rfl ⟨by omega, by omega, by omega, by omega⟩ rfl rfl rfl rfl ?_ | refine k_buildSlice (cs := []) rfl rfl rfl rfl rfl rfl rfl ?_ | refine k_buildSlice rfl rfl rfl rfl rfl rfl rfl ?_ | refine k_loade rfl rfl rfl ?_ | refine k_fieldAddre rfl rfl rfl rfl ?_ | refine k_nilCheck rfl rfl rfl ?_ | refine W_yes rfl ?_ | refine W_no rfl ?_)
  repeat (first | with_reducible (first | refine W_seq ?_ | refine q_then ?_ | refine q_thenr ?_ | refine q_thenx ?_ | refine W_block ?_ | refine q_block ?_ | refine q_blockr ?_ | refine q_blockx ?_ | refine W_ret ?_ | refine W_skip ?_ | refine W_label ?_ | refine W_exit ?_ | refine W_scope ?_ | refine q_scope ?_ | refine q_scoper ?_ | refine q_scopex ?_) | (with_reducible refine R_nil ?_; try dsimp only [slots0, slots_ud, cells_U, agg_ud, drop0, dropS, takeS, take0, ud_nil, take_ud, take_ud0, drop_ud, drop_ud0, take_udk, D.cells, D.fz, D.fzs, List.take_succ_cons, List.take_zero, List.drop_succ_cons, List.drop_zero, List.cons_append, List.nil_append, List.append_eq, List.length_cons, List.length_nil, Nat.reduceAdd, Nat.reduceMul, Nat.reduceSub, Int.reduceAdd, Int.reduceSub, Int.reduceToNat, Int.reduceNeg, Int.reduceMul]) | refine q_blocky rfl ?_ | refine W_plain rfl ?_ | refine W_drawn mixed rfl ?_ | refine and_chk (by kernel_rfl) ?_ | refine k_store rfl rfl rfl rfl rfl rfl (by exact p5 _ rfl) ?_ | refine k_move rfl rfl ?_ | refine k_load rfl rfl rfl rfl ?_ | refine k_alloc rfl ?_ | refine k_store rfl rfl rfl rfl rfl rfl rfl ?_ | refine k_fieldAddr rfl rfl rfl ?_ | refine k_callf (fun l => l) [0] (3) rfl (c5) rfl (by first | exact Ups.refl _ | assumption | ((repeat refine Ups.cons (by first | exact Up.refl _ | exact Up.nil _ | exact Up.fz _ _ _) ?_); exact Ups.nil)) (rfl) (by (repeat (first | refine ⟨⟨rfl, _, rfl, (by first | exact Ups.refl _ | assumption | ((repeat refine Ups.cons (by first | exact Up.refl _ | exact Up.nil _ | exact Up.fz _ _ _) ?_); exact Ups.nil)), rfl⟩, ?_⟩ | refine ⟨⟨rfl, rfl⟩, ?_⟩)); exact trivial) rfl rfl rfl rfl (rfl) (rfl) rfl rfl rfl rfl ?_ | refine k_append rfl rfl rfl (by first | rfl | exact trivial | (show 0 < _; omega)) (by first | rfl | (simp <;> omega)) (by first | rfl | (simp <;> omega)) rfl (by omega) rfl rfl rfl ?_ | refine k_slice rfl rfl rfl rfl ⟨by omega, by omega, by omega⟩ rfl rfl rfl ?_ | refine k_slice3 rfl rfl rfl rfl rfl ⟨by omega, by omega, by omega⟩ rfl rfl rfl ?_ | refine k_sliceA rfl rfl rfl rfl ⟨by omega, by omega, by omega, by omega⟩ rfl rfl ?_ | refine k_sliceE rfl rfl rfl rfl ⟨by omega, by omega, by omega, by omega⟩ rfl rfl rfl rfl ?_ | refine k_buildSlice (cs := []) rfl rfl rfl rfl rfl rfl rfl ?_ | refine k_buildSlice rfl rfl rfl rfl rfl rfl rfl ?_ | refine k_loade rfl rfl rfl ?_ | refine k_fieldAddre rfl rfl rfl rfl ?_ | refine k_nilCheck rfl rfl rfl ?_ | refine W_yes rfl ?_ | refine W_no rfl ?_)
  repeat (first | with_reducible (first | refine W_seq ?_ | refine q_then ?_ | refine q_thenr ?_ | refine q_thenx ?_ | refine W_block ?_ | refine q_block ?_ | refine q_blockr ?_ | refine q_blockx ?_ | refine W_ret ?_ | refine W_skip ?_ | refine W_label ?_ | refine W_exit ?_ | refine W_scope ?_ | refine q_scope ?_ | refine q_scoper ?_ | refine q_scopex ?_) | (with_reducible refine R_nil ?_; try dsimp only [slots0, slots_ud, cells_U, agg_ud, drop0, dropS, takeS, take0, ud_nil, take_ud, take_ud0, drop_ud, drop_ud0, take_udk, D.cells, D.fz, D.fzs, List.take_succ_cons, List.take_zero, List.drop_succ_cons, List.drop_zero, List.cons_append, List.nil_append, List.append_eq, List.length_cons, List.length_nil, Nat.reduceAdd, Nat.reduceMul, Nat.reduceSub, Int.reduceAdd, Int.reduceSub, Int.reduceToNat, Int.reduceNeg, Int.reduceMul]) | refine q_blocky rfl ?_ | refine W_plain rfl ?_ | refine W_drawn mixed rfl ?_ | refine and_chk (by kernel_rfl) ?_ | refine k_store rfl rfl rfl rfl rfl rfl (by exact p6 _ rfl) ?_ | refine k_appendB rfl rfl rfl (by rfl) rfl hL6 rfl (by omega) (by omega) (Nat.zero_add _) rfl ?_ | refine k_store rfl rfl rfl rfl rfl rfl (by exact p7 _ rfl) ?_ | refine k_load rfl rfl rfl (by exact lall _) ?_ | refine k_store rfl rfl rfl rfl (by exact llen) rfl (by exact llay _ rfl) ?_ | refine k_move rfl rfl ?_ | refine k_load rfl rfl rfl rfl ?_ | refine k_alloc rfl ?_ | refine k_store rfl rfl rfl rfl rfl rfl rfl ?_ | refine k_fieldAddr rfl rfl rfl ?_ | refine k_callf (fun l => l) [0] (3) rfl (c6) rfl (by first | exact Ups.refl _ | assumption | ((repeat refine Ups.cons (by first | exact Up.refl _ | exact Up.nil _ | exact Up.fz _ _ _) ?_); exact Ups.nil)) (rfl) (by (repeat (first | refine ⟨⟨rfl, _, rfl, (by first | exact Ups.refl _ | assumption | ((repeat refine Ups.cons (by first | exact Up.refl _ | exact Up.nil _ | exact Up.fz _ _ _) ?_); exact Ups.nil)), rfl⟩, ?_⟩ | refine ⟨⟨rfl, rfl⟩, ?_⟩)); exact trivial) rfl rfl rfl rfl (rfl) (rfl) rfl rfl rfl rfl ?_ | refine k_append rfl rfl rfl (by first | rfl | exact trivial | (show 0 < _; omega)) (by first | rfl | (simp <;> omega)) (by first | rfl | (simp <;> omega)) rfl (by omega) rfl rfl rfl ?_ | refine k_slice rfl rfl rfl rfl ⟨by omega, by omega, by omega⟩ rfl rfl rfl ?_ | refine k_slice3 rfl rfl rfl rfl rfl ⟨by omega, by omega, by omega⟩ rfl rfl rfl ?_ | refine k_sliceA rfl rfl rfl rfl ⟨by omega, by omega, by omega, by omega⟩ rfl rfl ?_ | refine k_sliceE rfl rfl rfl rfl ⟨by omega, by omega, by omega, by omega⟩ rfl rfl rfl rfl ?_ | refine k_buildSlice (cs := []) rfl rfl rfl rfl rfl rfl rfl ?_ | refine k_buildSlice rfl rfl rfl rfl rfl rfl rfl ?_ | refine k_loade rfl rfl rfl ?_ | refine k_fieldAddre rfl rfl rfl rfl ?_ | refine k_nilCheck rfl rfl rfl ?_ | refine W_yes rfl ?_ | refine W_no rfl ?_)
  refine (q_endf (fun l => l) 5 (RetsF.r1 (RetV.cell _ _ _ _ _ _ _ _ inferInstance rfl rfl (by exact lall _)) (by rw [hren]; exact hup)) hfull ?_ rfl rfl rfl).2
  refine ⟨⟨rfl, _, rfl, ?_, rfl⟩, trivial⟩
  show Ups [_, _] [_, _]
  exact Ups.refl _
end Go.Proofs.Ytbpaimfnfigjpaa
