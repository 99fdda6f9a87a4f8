/- FieldTurns: sums and products by a modulus do not depend on which comes first: for every three raw things the call returns true. No conditions. -/
import Derived.Test.YtdelfiijbkhldaaRow
import Derived.Test.YtdelfiijbkhldaaFTells
namespace Go.Proofs.Ytdelfiijbkhldaa.fieldTurns
open Go.ChangeShapes Go.WideShapes Go.RowKit
set_option linter.unusedVariables false
set_option linter.unusedSimpArgs false

set_option maxHeartbeats 4000000 in
theorem walk (k1 a1 b1 k2 a2 b2 k3 a3 b3 : Int) (s1 s2 s3 : ByteArray) (w : World) :
    Calls Try.prog 3 #[.agg (raw k1 a1 b1 s1), .agg (raw k2 a2 b2 s2), .agg (raw k3 a3 b3 s3)] w fun e w' => e = .returned (.bool true) ∧ New w w' := by
  go_enter Try.func3, Try.ntmps3
  go_wp2_with fail
  generalize hW : World.alloc _ _ = W
  obtain ⟨N, B3, B4, B5, B21⟩ := boxes4 hW
  clear hW
  generalize q21 : w.heap.size + 1 + 1 + 1 = g21 at *
  generalize q5 : w.heap.size + 1 + 1 = g5 at *
  generalize q4 : w.heap.size + 1 = g4 at *
  have hL : Hid (w.heap.size < g4 ∧ g4 < g5 ∧ g5 < g21) := hide (by omega)
  clear q4 q5 q21
  try clear c3
  try clear l3
  try clear f3
  have c3 := B3.cell; have l3 := B3.lt
  try clear c4
  try clear l4
  try clear f4
  have c4 := B4.cell; have l4 := B4.lt
  try clear c5
  try clear l5
  try clear f5
  have c5 := B5.cell; have l5 := B5.lt
  try clear c21
  try clear l21
  try clear f21
  have c21 := B21.cell; have l21 := B21.lt
  refine (ring2 k1 a1 b1 s1 k2 a2 b2 s2 k3 a3 b3 s3 g21 _ _ B21).mono ?_
  rintro e w1 ⟨g8, cap, cur, rfl, hb, B8, hcap, hcur⟩
  have hn0 := mo_pos (num k1 a1 b1); have hnM := mo_lt _ (num_lt k1 a1 b1)
  generalize mo (num k1 a1 b1) = n at *
  have hx := Nat.mod_lt (num k2 a2 b2) hn0; have hy := Nat.mod_lt (num k3 a3 b3) hn0
  generalize num k2 a2 b2 % n = x at *; generalize num k3 a3 b3 % n = y at *
  have N := new_trans N hb
  have q0 := hcur 0 _ rfl; have q1 := hcur 1 _ rfl; have q2 := hcur 2 _ rfl; have q3 := hcur 3 _ rfl
  have q4 := hcur 4 _ rfl; have q5 := hcur 5 _ rfl; have q6 := hcur 6 _ rfl; have q7 := hcur 7 _ rfl
  clear hcur hb B3 B4 B5 B21 c3 c4 c5 c21 l3 l4 l5 l21 hL hcap
  obtain ⟨s, es⟩ : ∃ s, (x + y) % n = s := ⟨_, rfl⟩
  obtain ⟨p, ep⟩ : ∃ p, x * y % n = p := ⟨_, rfl⟩
  have es2 : (y + x) % n = s := by rw [Nat.add_comm]; exact es
  have ep2 : y * x % n = p := by rw [Nat.mul_comm]; exact ep
  have hs : s < n := by rw [← es]; exact Nat.mod_lt _ hn0
  have hp : p < n := by rw [← ep]; exact Nat.mod_lt _ hn0
  have es := hide es; have ep := hide ep; have es2 := hide es2; have ep2 := hide ep2; have hs := hide hs; have hp := hide hp; have hx := hide hx; have hy := hide hy; have hnM := hide hnM; have hn0 := hide hn0
  go_wp2_with fail
  generalize hZ : World.alloc w1 _ = Z
  obtain ⟨NZ, B7⟩ := boxes1 hZ
  have B8 := B8.up NZ; have N := new_trans N NZ
  clear hZ NZ
  apply region_okA
  case hm => kernel_rfl
  case hall =>
    apply allok_cons
    · exact ok_val _ fun ρ w' hN hc hF h0 hp => by have h8 := h0 8 rfl; simp [execOp, go_sem, hc, hF, h8] <;> rfl
    apply allok_cons
    · exact ok_val _ fun ρ w' hN hc hF h0 hp => by have h26 := hp 0 _ _ rfl rfl rfl; simp [execOp, go_sem, hc, hF, h26] <;> rfl
    apply allok_cons
    · exact ok_val _ fun ρ w' hN hc hF h0 hp => by have h27 := hp 1 _ _ rfl rfl rfl; have c := Blk.cell (B8.up hN); simp [execOp, go_sem, hc, hF, h27, c, q0, q1, q2, q3] <;> rfl
    apply allok_cons
    · exact ok_val _ fun ρ w' hN hc hF h0 hp => by have h8 := h0 8 rfl; simp [execOp, go_sem, hc, hF, h8] <;> rfl
    apply allok_cons
    · exact ok_val _ fun ρ w' hN hc hF h0 hp => by have h29 := hp 3 _ _ rfl rfl rfl; simp [execOp, go_sem, hc, hF, h29] <;> rfl
    apply allok_cons
    · exact ok_val _ fun ρ w' hN hc hF h0 hp => by have h30 := hp 4 _ _ rfl rfl rfl; have c := Blk.cell (B8.up hN); simp [execOp, go_sem, hc, hF, h30, c, q4, q5, q6, q7] <;> rfl
    apply allok_cons
    · exact ok_val _ fun ρ w' hN hc hF h0 hp => by have h7 := h0 7 rfl; have c := Blk.cell (B7.up hN); simp [execOp, go_sem, hc, hF, h7, c] <;> rfl
    apply allok_cons
    · refine ok_call 11 _ _ _ _ _ rfl Try.func11 (by kernel_rfl) (by kernel_rfl) ?_ (Add_to x y n s (unhide hnM) (unhide hx) (unhide hy) (unhide es)); intro a h0 hp; have h28 := hp 2 _ _ rfl rfl rfl; have h31 := hp 5 _ _ rfl rfl rfl; have h32 := hp 6 _ _ rfl rfl rfl; simp [h28, h31, h32]
    apply allok_cons
    · exact ok_val _ fun ρ w' hN hc hF h0 hp => by have h33 := hp 7 _ _ rfl rfl rfl; simp [execOp, go_sem, hc, hF, h33] <;> rfl
    apply allok_cons
    · exact ok_val _ fun ρ w' hN hc hF h0 hp => by have h25 := hp 8 _ _ rfl rfl rfl; simp [execOp, go_sem, hc, hF, h25] <;> rfl
    apply allok_cons
    · exact ok_val _ fun ρ w' hN hc hF h0 hp => by have h25 := hp 8 _ _ rfl rfl rfl; simp [execOp, go_sem, hc, hF, h25] <;> rfl
    apply allok_cons
    · exact ok_alloc _ _ rfl zero_u
    apply allok_cons
    · exact ok_store _ 11 9 34 9 _ _ rfl rfl rfl rfl rfl rfl rfl rfl size_u rfl (by simp [Value.oneCell'])
    apply allok_cons
    · exact ok_val _ fun ρ w' hN hc hF h0 hp => by have h35 := hp 10 _ _ rfl rfl rfl; simp [execOp, go_sem, hc, hF, h35] <;> rfl
    exact allok_nil
  case hops => kernel_rfl
  case hlen => rfl
  case hputs => rfl
  intro g v1 hN1 hB hD
  simp [frame, gives, Act.put]
  have B9 : Blk v1 (g 11) _ _ := (hB 11 _ _ 12 _ rfl rfl).2
  have B7 := B7.up hN1
  have B8 := B8.up hN1
  have N := new_trans N hN1
  generalize g 11 = p9 at *
  clear hB hD g hN1
  try clear c7
  try clear l7
  have c7 := B7.cell; have l7 := B7.lt
  try clear c8
  try clear l8
  have c8 := B8.cell; have l8 := B8.lt
  try clear c9
  try clear l9
  have c9 := B9.cell; have l9 := B9.lt
  go_wp2_with fail
  apply region_okA
  case hm => kernel_rfl
  case hall =>
    apply allok_cons
    · exact ok_val _ fun ρ w' hN hc hF h0 hp => by have h8 := h0 8 rfl; simp [execOp, go_sem, hc, hF, h8] <;> rfl
    apply allok_cons
    · exact ok_val _ fun ρ w' hN hc hF h0 hp => by have h37 := hp 0 _ _ rfl rfl rfl; simp [execOp, go_sem, hc, hF, h37] <;> rfl
    apply allok_cons
    · exact ok_val _ fun ρ w' hN hc hF h0 hp => by have h38 := hp 1 _ _ rfl rfl rfl; have c := Blk.cell (B8.up hN); simp [execOp, go_sem, hc, hF, h38, c, q4, q5, q6, q7] <;> rfl
    apply allok_cons
    · exact ok_val _ fun ρ w' hN hc hF h0 hp => by have h8 := h0 8 rfl; simp [execOp, go_sem, hc, hF, h8] <;> rfl
    apply allok_cons
    · exact ok_val _ fun ρ w' hN hc hF h0 hp => by have h40 := hp 3 _ _ rfl rfl rfl; simp [execOp, go_sem, hc, hF, h40] <;> rfl
    apply allok_cons
    · exact ok_val _ fun ρ w' hN hc hF h0 hp => by have h41 := hp 4 _ _ rfl rfl rfl; have c := Blk.cell (B8.up hN); simp [execOp, go_sem, hc, hF, h41, c, q0, q1, q2, q3] <;> rfl
    apply allok_cons
    · exact ok_val _ fun ρ w' hN hc hF h0 hp => by have h7 := h0 7 rfl; have c := Blk.cell (B7.up hN); simp [execOp, go_sem, hc, hF, h7, c] <;> rfl
    apply allok_cons
    · refine ok_call 11 _ _ _ _ _ rfl Try.func11 (by kernel_rfl) (by kernel_rfl) ?_ (Add_to y x n s (unhide hnM) (unhide hy) (unhide hx) (unhide es2)); intro a h0 hp; have h39 := hp 2 _ _ rfl rfl rfl; have h42 := hp 5 _ _ rfl rfl rfl; have h43 := hp 6 _ _ rfl rfl rfl; simp [h39, h42, h43]
    apply allok_cons
    · exact ok_val _ fun ρ w' hN hc hF h0 hp => by have h44 := hp 7 _ _ rfl rfl rfl; simp [execOp, go_sem, hc, hF, h44] <;> rfl
    apply allok_cons
    · exact ok_val _ fun ρ w' hN hc hF h0 hp => by have h36 := hp 8 _ _ rfl rfl rfl; simp [execOp, go_sem, hc, hF, h36] <;> rfl
    apply allok_cons
    · exact ok_val _ fun ρ w' hN hc hF h0 hp => by have h36 := hp 8 _ _ rfl rfl rfl; simp [execOp, go_sem, hc, hF, h36] <;> rfl
    apply allok_cons
    · exact ok_alloc _ _ rfl zero_u
    apply allok_cons
    · exact ok_store _ 11 11 45 9 _ _ rfl rfl rfl rfl rfl rfl rfl rfl size_u rfl (by simp [Value.oneCell'])
    apply allok_cons
    · exact ok_val _ fun ρ w' hN hc hF h0 hp => by have h46 := hp 10 _ _ rfl rfl rfl; simp [execOp, go_sem, hc, hF, h46] <;> rfl
    exact allok_nil
  case hops => kernel_rfl
  case hlen => rfl
  case hputs => rfl
  intro g v2 hN1 hB hD
  simp [frame, gives, Act.put]
  have B11 : Blk v2 (g 11) _ _ := (hB 11 _ _ 12 _ rfl rfl).2
  have B7 := B7.up hN1
  have B8 := B8.up hN1
  have B9 := B9.up hN1
  have N := new_trans N hN1
  generalize g 11 = p11 at *
  clear hB hD g hN1
  try clear c7
  try clear l7
  have c7 := B7.cell; have l7 := B7.lt
  try clear c8
  try clear l8
  have c8 := B8.cell; have l8 := B8.lt
  try clear c9
  try clear l9
  have c9 := B9.cell; have l9 := B9.lt
  try clear c11
  try clear l11
  have c11 := B11.cell; have l11 := B11.lt
  go_wp2_with fail
  apply region_okA
  case hm => kernel_rfl
  case hall =>
    apply allok_cons
    · exact ok_val _ fun ρ w' hN hc hF h0 hp => by have h8 := h0 8 rfl; simp [execOp, go_sem, hc, hF, h8] <;> rfl
    apply allok_cons
    · exact ok_val _ fun ρ w' hN hc hF h0 hp => by have h48 := hp 0 _ _ rfl rfl rfl; simp [execOp, go_sem, hc, hF, h48] <;> rfl
    apply allok_cons
    · exact ok_val _ fun ρ w' hN hc hF h0 hp => by have h49 := hp 1 _ _ rfl rfl rfl; have c := Blk.cell (B8.up hN); simp [execOp, go_sem, hc, hF, h49, c, q0, q1, q2, q3] <;> rfl
    apply allok_cons
    · exact ok_val _ fun ρ w' hN hc hF h0 hp => by have h8 := h0 8 rfl; simp [execOp, go_sem, hc, hF, h8] <;> rfl
    apply allok_cons
    · exact ok_val _ fun ρ w' hN hc hF h0 hp => by have h51 := hp 3 _ _ rfl rfl rfl; simp [execOp, go_sem, hc, hF, h51] <;> rfl
    apply allok_cons
    · exact ok_val _ fun ρ w' hN hc hF h0 hp => by have h52 := hp 4 _ _ rfl rfl rfl; have c := Blk.cell (B8.up hN); simp [execOp, go_sem, hc, hF, h52, c, q4, q5, q6, q7] <;> rfl
    apply allok_cons
    · exact ok_val _ fun ρ w' hN hc hF h0 hp => by have h7 := h0 7 rfl; have c := Blk.cell (B7.up hN); simp [execOp, go_sem, hc, hF, h7, c] <;> rfl
    apply allok_cons
    · refine ok_call 12 _ _ _ _ _ rfl Try.func12 (by kernel_rfl) (by kernel_rfl) ?_ (Mul_to x y n p (unhide hnM) (unhide hx) (unhide hy) (unhide ep)); intro a h0 hp; have h50 := hp 2 _ _ rfl rfl rfl; have h53 := hp 5 _ _ rfl rfl rfl; have h54 := hp 6 _ _ rfl rfl rfl; simp [h50, h53, h54]
    apply allok_cons
    · exact ok_val _ fun ρ w' hN hc hF h0 hp => by have h55 := hp 7 _ _ rfl rfl rfl; simp [execOp, go_sem, hc, hF, h55] <;> rfl
    apply allok_cons
    · exact ok_val _ fun ρ w' hN hc hF h0 hp => by have h47 := hp 8 _ _ rfl rfl rfl; simp [execOp, go_sem, hc, hF, h47] <;> rfl
    apply allok_cons
    · exact ok_val _ fun ρ w' hN hc hF h0 hp => by have h47 := hp 8 _ _ rfl rfl rfl; simp [execOp, go_sem, hc, hF, h47] <;> rfl
    apply allok_cons
    · exact ok_alloc _ _ rfl zero_u
    apply allok_cons
    · exact ok_store _ 11 13 56 9 _ _ rfl rfl rfl rfl rfl rfl rfl rfl size_u rfl (by simp [Value.oneCell'])
    apply allok_cons
    · exact ok_val _ fun ρ w' hN hc hF h0 hp => by have h57 := hp 10 _ _ rfl rfl rfl; simp [execOp, go_sem, hc, hF, h57] <;> rfl
    exact allok_nil
  case hops => kernel_rfl
  case hlen => rfl
  case hputs => rfl
  intro g v3 hN1 hB hD
  simp [frame, gives, Act.put]
  have B13 : Blk v3 (g 11) _ _ := (hB 11 _ _ 12 _ rfl rfl).2
  have B7 := B7.up hN1
  have B8 := B8.up hN1
  have B9 := B9.up hN1
  have B11 := B11.up hN1
  have N := new_trans N hN1
  generalize g 11 = p13 at *
  clear hB hD g hN1
  try clear c7
  try clear l7
  have c7 := B7.cell; have l7 := B7.lt
  try clear c8
  try clear l8
  have c8 := B8.cell; have l8 := B8.lt
  try clear c9
  try clear l9
  have c9 := B9.cell; have l9 := B9.lt
  try clear c11
  try clear l11
  have c11 := B11.cell; have l11 := B11.lt
  try clear c13
  try clear l13
  have c13 := B13.cell; have l13 := B13.lt
  go_wp2_with fail
  apply region_okA
  case hm => kernel_rfl
  case hall =>
    apply allok_cons
    · exact ok_val _ fun ρ w' hN hc hF h0 hp => by have h8 := h0 8 rfl; simp [execOp, go_sem, hc, hF, h8] <;> rfl
    apply allok_cons
    · exact ok_val _ fun ρ w' hN hc hF h0 hp => by have h59 := hp 0 _ _ rfl rfl rfl; simp [execOp, go_sem, hc, hF, h59] <;> rfl
    apply allok_cons
    · exact ok_val _ fun ρ w' hN hc hF h0 hp => by have h60 := hp 1 _ _ rfl rfl rfl; have c := Blk.cell (B8.up hN); simp [execOp, go_sem, hc, hF, h60, c, q4, q5, q6, q7] <;> rfl
    apply allok_cons
    · exact ok_val _ fun ρ w' hN hc hF h0 hp => by have h8 := h0 8 rfl; simp [execOp, go_sem, hc, hF, h8] <;> rfl
    apply allok_cons
    · exact ok_val _ fun ρ w' hN hc hF h0 hp => by have h62 := hp 3 _ _ rfl rfl rfl; simp [execOp, go_sem, hc, hF, h62] <;> rfl
    apply allok_cons
    · exact ok_val _ fun ρ w' hN hc hF h0 hp => by have h63 := hp 4 _ _ rfl rfl rfl; have c := Blk.cell (B8.up hN); simp [execOp, go_sem, hc, hF, h63, c, q0, q1, q2, q3] <;> rfl
    apply allok_cons
    · exact ok_val _ fun ρ w' hN hc hF h0 hp => by have h7 := h0 7 rfl; have c := Blk.cell (B7.up hN); simp [execOp, go_sem, hc, hF, h7, c] <;> rfl
    apply allok_cons
    · refine ok_call 12 _ _ _ _ _ rfl Try.func12 (by kernel_rfl) (by kernel_rfl) ?_ (Mul_to y x n p (unhide hnM) (unhide hy) (unhide hx) (unhide ep2)); intro a h0 hp; have h61 := hp 2 _ _ rfl rfl rfl; have h64 := hp 5 _ _ rfl rfl rfl; have h65 := hp 6 _ _ rfl rfl rfl; simp [h61, h64, h65]
    apply allok_cons
    · exact ok_val _ fun ρ w' hN hc hF h0 hp => by have h66 := hp 7 _ _ rfl rfl rfl; simp [execOp, go_sem, hc, hF, h66] <;> rfl
    apply allok_cons
    · exact ok_val _ fun ρ w' hN hc hF h0 hp => by have h58 := hp 8 _ _ rfl rfl rfl; simp [execOp, go_sem, hc, hF, h58] <;> rfl
    apply allok_cons
    · exact ok_val _ fun ρ w' hN hc hF h0 hp => by have h58 := hp 8 _ _ rfl rfl rfl; simp [execOp, go_sem, hc, hF, h58] <;> rfl
    apply allok_cons
    · exact ok_alloc _ _ rfl zero_u
    apply allok_cons
    · exact ok_store _ 11 15 67 9 _ _ rfl rfl rfl rfl rfl rfl rfl rfl size_u rfl (by simp [Value.oneCell'])
    apply allok_cons
    · exact ok_val _ fun ρ w' hN hc hF h0 hp => by have h68 := hp 10 _ _ rfl rfl rfl; simp [execOp, go_sem, hc, hF, h68] <;> rfl
    exact allok_nil
  case hops => kernel_rfl
  case hlen => rfl
  case hputs => rfl
  intro g v4 hN1 hB hD
  simp [frame, gives, Act.put]
  have B15 : Blk v4 (g 11) _ _ := (hB 11 _ _ 12 _ rfl rfl).2
  have B7 := B7.up hN1
  have B8 := B8.up hN1
  have B9 := B9.up hN1
  have B11 := B11.up hN1
  have B13 := B13.up hN1
  have N := new_trans N hN1
  generalize g 11 = p15 at *
  clear hB hD g hN1
  try clear c7
  try clear l7
  have c7 := B7.cell; have l7 := B7.lt
  try clear c8
  try clear l8
  have c8 := B8.cell; have l8 := B8.lt
  try clear c9
  try clear l9
  have c9 := B9.cell; have l9 := B9.lt
  try clear c11
  try clear l11
  have c11 := B11.cell; have l11 := B11.lt
  try clear c13
  try clear l13
  have c13 := B13.cell; have l13 := B13.lt
  try clear c15
  try clear l15
  have c15 := B15.cell; have l15 := B15.lt
  clear B8 c8 l8 q0 q1 q2 q3 q4 q5 q6 q7
  go_wp2_with fail
  refine (ftells_any _).mono ?_
  rintro e v5 ⟨rfl, hb⟩
  have U : New v4 v5 := new_trans (by (repeat' (first | with_reducible exact new_refl _ | with_reducible assumption | with_reducible refine new_drewN ?_ _ | with_reducible refine new_drew ?_ | with_reducible refine new_alloc ?_ _ | with_reducible refine new_set ?_ ?_ _ | with_reducible refine new_freeze ?_ ?_ _ | with_reducible refine new_trans ?_ (by assumption) | (simp; done) | (simp; omega)))) hb
  have N : New w v5 := new_trans (by (repeat' (first | with_reducible exact new_refl _ | with_reducible assumption | with_reducible refine new_drewN ?_ _ | with_reducible refine new_drew ?_ | with_reducible refine new_alloc ?_ _ | with_reducible refine new_set ?_ ?_ _ | with_reducible refine new_freeze ?_ ?_ _ | with_reducible refine new_trans ?_ (by assumption) | (simp; done) | (simp; omega)))) hb
  have B7 := B7.up U
  have B9 := B9.up U
  have B11 := B11.up U
  have B13 := B13.up U
  have B15 := B15.up U
  try clear c7
  try clear l7
  try clear f7
  have c7 := B7.cell; have l7 := B7.lt
  try clear c9
  try clear l9
  try clear f9
  have c9 := B9.cell; have l9 := B9.lt
  try clear c11
  try clear l11
  try clear f11
  have c11 := B11.cell; have l11 := B11.lt
  try clear c13
  try clear l13
  try clear f13
  have c13 := B13.cell; have l13 := B13.lt
  try clear c15
  try clear l15
  try clear f15
  have c15 := B15.cell; have l15 := B15.lt
  clear hb U
  go_wp2_with fail
  refine (cmp_m s n (unhide hnM) (unhide hs) _).mono ?_
  rintro e v6 ⟨rfl, hb⟩
  have U : New v5 v6 := new_trans (by (repeat' (first | with_reducible exact new_refl _ | with_reducible assumption | with_reducible refine new_drewN ?_ _ | with_reducible refine new_drew ?_ | with_reducible refine new_alloc ?_ _ | with_reducible refine new_set ?_ ?_ _ | with_reducible refine new_freeze ?_ ?_ _ | with_reducible refine new_trans ?_ (by assumption) | (simp; done) | (simp; omega)))) hb
  have N : New w v6 := new_trans (by (repeat' (first | with_reducible exact new_refl _ | with_reducible assumption | with_reducible refine new_drewN ?_ _ | with_reducible refine new_drew ?_ | with_reducible refine new_alloc ?_ _ | with_reducible refine new_set ?_ ?_ _ | with_reducible refine new_freeze ?_ ?_ _ | with_reducible refine new_trans ?_ (by assumption) | (simp; done) | (simp; omega)))) hb
  have B7 := B7.up U
  have B9 := B9.up U
  have B11 := B11.up U
  have B13 := B13.up U
  have B15 := B15.up U
  try clear c7
  try clear l7
  try clear f7
  have c7 := B7.cell; have l7 := B7.lt
  try clear c9
  try clear l9
  try clear f9
  have c9 := B9.cell; have l9 := B9.lt
  try clear c11
  try clear l11
  try clear f11
  have c11 := B11.cell; have l11 := B11.lt
  try clear c13
  try clear l13
  try clear f13
  have c13 := B13.cell; have l13 := B13.lt
  try clear c15
  try clear l15
  try clear f15
  have c15 := B15.cell; have l15 := B15.lt
  clear hb U
  go_wp2_with fail
  refine (cmp_m p n (unhide hnM) (unhide hp) _).mono ?_
  rintro e v7 ⟨rfl, hb⟩
  have U : New v6 v7 := new_trans (by (repeat' (first | with_reducible exact new_refl _ | with_reducible assumption | with_reducible refine new_drewN ?_ _ | with_reducible refine new_drew ?_ | with_reducible refine new_alloc ?_ _ | with_reducible refine new_set ?_ ?_ _ | with_reducible refine new_freeze ?_ ?_ _ | with_reducible refine new_trans ?_ (by assumption) | (simp; done) | (simp; omega)))) hb
  have N : New w v7 := new_trans (by (repeat' (first | with_reducible exact new_refl _ | with_reducible assumption | with_reducible refine new_drewN ?_ _ | with_reducible refine new_drew ?_ | with_reducible refine new_alloc ?_ _ | with_reducible refine new_set ?_ ?_ _ | with_reducible refine new_freeze ?_ ?_ _ | with_reducible refine new_trans ?_ (by assumption) | (simp; done) | (simp; omega)))) hb
  have B7 := B7.up U
  have B9 := B9.up U
  have B11 := B11.up U
  have B13 := B13.up U
  have B15 := B15.up U
  try clear c7
  try clear l7
  try clear f7
  have c7 := B7.cell; have l7 := B7.lt
  try clear c9
  try clear l9
  try clear f9
  have c9 := B9.cell; have l9 := B9.lt
  try clear c11
  try clear l11
  try clear f11
  have c11 := B11.cell; have l11 := B11.lt
  try clear c13
  try clear l13
  try clear f13
  have c13 := B13.cell; have l13 := B13.lt
  try clear c15
  try clear l15
  try clear f15
  have c15 := B15.cell; have l15 := B15.lt
  clear hb U
  go_wp2
  go_ret
  exact ⟨by simp, by (repeat' (first | with_reducible exact new_refl _ | with_reducible assumption | with_reducible refine new_drewN ?_ _ | with_reducible refine new_drew ?_ | with_reducible refine new_alloc ?_ _ | with_reducible refine new_set ?_ ?_ _ | with_reducible refine new_freeze ?_ ?_ _ | with_reducible refine new_trans ?_ (by assumption) | (simp; done) | (simp; omega)))⟩

set_option maxRecDepth 100000 in
theorem lifted (os : Os) (started : os.Started) (H : Type) (enc : TypeId × Value → H) :
    ReturnsInHanded {} Try.checked os 3 .any (Rows.fieldTurnsSpec.pre6 enc Try.prog Try.f3 Rows.fieldTurnsRow.domain false) (Rows.fieldTurnsSpec.post enc Try.prog Try.f3 false true false false) := by
  refine returnsInHanded_of_change (C := Try.checked) own started (by kernel_rfl) Try.func3
    (ChangeSpec.witness6 (enc := enc) (C := Try.checked) false ⟨#[], #[.agg #[.int .i64 0, .int .i64 0, .int .i64 0, .string ⟨#[]⟩], .agg #[.int .i64 0, .int .i64 0, .int .i64 0, .string ⟨#[]⟩], .agg #[.int .i64 0, .int .i64 0, .int .i64 0, .string ⟨#[]⟩]], []⟩ 8 (by kernel_rfl) (by kernel_rfl) (by kernel_rfl) (by kernel_rfl)) ?_
  intro W base args ds gs before hval0 hW hcnd _
  have hval : ∀ (j : Nat) t v, Try.f3.params[j]? = some t → args[j]? = some v → Value.okWide Try.prog W .any base t v := hval0
  have hW' := hW
  obtain ⟨p, q, hA0, hV, rfl, hfz, hnd⟩ := hW
  have hA : DataW.TrodAll enc Try.prog W 0 (fun _ => true) true Try.f3.params.toList args.toList ds p := hA0
  rw [Try.params3] at hA hval
  obtain ⟨v0, vs0, d0, ds0, p0, q0, hargs, rfl, rfl, h0, r0⟩ := trodAll_cons hA
  obtain ⟨v1, vs1, d1, ds1, p1, q1, rfl, rfl, rfl, h1, r1⟩ := trodAll_cons r0
  obtain ⟨v2, vs2, d2, ds2, p2, q2, rfl, rfl, rfl, h2, r2⟩ := trodAll_cons r1
  obtain ⟨rfl, rfl, rfl⟩ := trodAll_nil r2
  obtain rfl : args = #[v0, v1, v2] := by cases args; simp_all
  obtain ⟨rfl, rfl⟩ := trodVars_none hV
  obtain ⟨k1, a1, b1, s1, rfl, wk1, wa1, wb1, ws1⟩ := open_raw (hval 0 23 v0 rfl rfl) h0
  obtain ⟨k2, a2, b2, s2, rfl, wk2, wa2, wb2, ws2⟩ := open_raw (hval 1 23 v1 rfl rfl) h1
  obtain ⟨k3, a3, b3, s3, rfl, wk3, wa3, wb3, ws3⟩ := open_raw (hval 2 23 v2 rfl rfl) h2
  refine (walk k1 a1 b1 k2 a2 b2 k3 a3 b3 s1 s2 s3 W).mono fun e W' ⟨he, hN⟩ => ?_
  subst he
  exact ⟨_, rfl, law_post laidOut (by kernel_rfl) (by kernel_rfl) Try.underlying4 rfl hW' rfl hN⟩

theorem holds : Rows.FieldTurnsSaid :=
  OpenClaim.holds_of_wide 3 Try.f3 rfl rfl rfl rfl rfl rfl rfl ⟨rfl, rfl, rfl, rfl, rfl⟩ rfl rfl rfl rfl rfl (by kernel_rfl) Try.func3 (by kernel_rfl)
    (of_decide_eq_true (by kernel_rfl)) (by unfold Func.isWrapper; first | (rw [if_pos (by decide +kernel)]; kernel_rfl) | (rw [if_neg (by decide +kernel)]; exact ⟨rfl, rfl⟩))
    (fun os started H enc _ => lifted os started H enc)

#print axioms holds
end Go.Proofs.Ytdelfiijbkhldaa.fieldTurns
