/- FieldGroups: three go together in any way, in sums and products by a modulus: for every four raw things the call returns true. No conditions. -/
import Derived.Test.YtdelfiijbkhldaaRow
import Derived.Test.YtdelfiijbkhldaaFTells
namespace Go.Proofs.Ytdelfiijbkhldaa.fieldGroups
open Go.ChangeShapes Go.WideShapes Go.RowKit
set_option linter.unusedVariables false
set_option linter.unusedSimpArgs false

set_option maxHeartbeats 4000000 in
theorem three_Add (x y z n ab bc p g gl gn cap : Nat) (cur : Array Value) (tl : TypeId) (w : World)
    (h1 : ∀ w, Calls Try.prog 11 #[u x, u y, u n] w fun e w' => e = .returned (.tuple #[u ab, .int .i64 0]) ∧ New w w')
    (h2 : ∀ w, Calls Try.prog 11 #[u ab, u z, u n] w fun e w' => e = .returned (.tuple #[u p, .int .i64 0]) ∧ New w w')
    (h3 : ∀ w, Calls Try.prog 11 #[u y, u z, u n] w fun e w' => e = .returned (.tuple #[u bc, .int .i64 0]) ∧ New w w')
    (h4 : ∀ w, Calls Try.prog 11 #[u x, u bc, u n] w fun e w' => e = .returned (.tuple #[u p, .int .i64 0]) ∧ New w w')
    (B1 : Blk w gl tl #[.slice (some ⟨g, 0, none⟩) 3 cap]) (B8 : Blk w g 26 cur) (B2 : Blk w gn 26 (uc n))
    (hq : ∀ (i : Nat) (v : Value), (cl [x, y, z])[i]? = some v → cur[i]? = some v) :
    Calls Try.prog 15 #[.func (.func 11) #[] #[], .pointer (some ⟨gl, 0, none⟩), .pointer (some ⟨gn, 0, none⟩)] w fun e w' => e = .returned (.bool true) ∧ New w w' := by
  have q0 := hq 0 _ rfl; have q1 := hq 1 _ rfl; have q2 := hq 2 _ rfl; have q3 := hq 3 _ rfl
  have q4 := hq 4 _ rfl; have q5 := hq 5 _ rfl; have q6 := hq 6 _ rfl; have q7 := hq 7 _ rfl
  have q8 := hq 8 _ rfl; have q9 := hq 9 _ rfl; have q10 := hq 10 _ rfl; have q11 := hq 11 _ rfl
  have h1 := hide h1; have h2 := hide h2; have h3 := hide h3; have h4 := hide h4
  clear hq
  have N := new_refl w
  have c1 := B1.cell; have c2 := B2.cell; have c8 := B8.cell; have l1 := B1.lt; have l2 := B2.lt; have l8 := B8.lt
  go_enter Try.func15, Try.ntmps15
  go_wp2_with fail
  apply region_okA
  case hm => kernel_rfl
  case hall =>
    apply allok_cons
    · exact ok_val _ fun ρ w' hN hc hF h0 hp => by have h0 := h0 0 rfl; (conv at h0 => (rhs; whnf)); simp [execOp, go_sem, hc, hF, h0] <;> rfl
    apply allok_cons
    · exact ok_val _ fun ρ w' hN hc hF h0 hp => by have h1 := h0 1 rfl; (conv at h1 => (rhs; whnf)); have c := Blk.cell (B1.up hN); simp [execOp, go_sem, hc, hF, h1, c] <;> rfl
    apply allok_cons
    · exact ok_val _ fun ρ w' hN hc hF h0 hp => by have h15 := hp 1 _ _ rfl rfl rfl; simp [execOp, go_sem, hc, hF, h15] <;> rfl
    apply allok_cons
    · exact ok_val _ fun ρ w' hN hc hF h0 hp => by have h16 := hp 2 _ _ rfl rfl rfl; have c := Blk.cell (B8.up hN); simp [execOp, go_sem, hc, hF, h16, c, q0, q1, q2, q3] <;> rfl
    apply allok_cons
    · exact ok_val _ fun ρ w' hN hc hF h0 hp => by have h1 := h0 1 rfl; (conv at h1 => (rhs; whnf)); have c := Blk.cell (B1.up hN); simp [execOp, go_sem, hc, hF, h1, c] <;> rfl
    apply allok_cons
    · exact ok_val _ fun ρ w' hN hc hF h0 hp => by have h18 := hp 4 _ _ rfl rfl rfl; simp [execOp, go_sem, hc, hF, h18] <;> rfl
    apply allok_cons
    · exact ok_val _ fun ρ w' hN hc hF h0 hp => by have h19 := hp 5 _ _ rfl rfl rfl; have c := Blk.cell (B8.up hN); simp [execOp, go_sem, hc, hF, h19, c, q4, q5, q6, q7] <;> rfl
    apply allok_cons
    · exact ok_val _ fun ρ w' hN hc hF h0 hp => by have h2 := h0 2 rfl; (conv at h2 => (rhs; whnf)); have c := Blk.cell (B2.up hN); simp [execOp, go_sem, hc, hF, h2, c] <;> rfl
    apply allok_cons
    · refine ok_callv 11 _ _ _ _ _ _ rfl Try.func11 (by kernel_rfl) (by kernel_rfl) ?ht ?hx (unhide h1); (case ht => (intro a h0 hp; have h14 := hp 0 _ _ rfl rfl rfl; simp [h14])); (case hx => (intro a h0 hp; have h14 := hp 0 _ _ rfl rfl rfl; have h17 := hp 3 _ _ rfl rfl rfl; have h20 := hp 6 _ _ rfl rfl rfl; have h21 := hp 7 _ _ rfl rfl rfl; simp [h14, h17, h20, h21]))
    apply allok_cons
    · exact ok_val _ fun ρ w' hN hc hF h0 hp => by have h22 := hp 8 _ _ rfl rfl rfl; simp [execOp, go_sem, hc, hF, h22] <;> rfl
    apply allok_cons
    · exact ok_val _ fun ρ w' hN hc hF h0 hp => by have h13 := hp 9 _ _ rfl rfl rfl; simp [execOp, go_sem, hc, hF, h13] <;> rfl
    apply allok_cons
    · exact ok_val _ fun ρ w' hN hc hF h0 hp => by have h13 := hp 9 _ _ rfl rfl rfl; simp [execOp, go_sem, hc, hF, h13] <;> rfl
    apply allok_cons
    · exact ok_alloc _ _ rfl zero_u
    apply allok_cons
    · exact ok_store _ 12 5 23 10 _ _ rfl rfl rfl rfl rfl rfl rfl rfl size_u rfl (by simp [Value.oneCell'])
    apply allok_cons
    · exact ok_val _ fun ρ w' hN hc hF h0 hp => by have h24 := hp 11 _ _ rfl rfl rfl; simp [execOp, go_sem, hc, hF, h24] <;> rfl
    exact allok_nil
  case hops => kernel_rfl
  case hlen => rfl
  case hputs => rfl
  intro g v1 hN1 hB hD
  simp [frame, gives, Act.put]
  have kk5 := (hB 12 _ _ 13 _ rfl rfl).1
  have B5 : Blk v1 (g 12) _ _ := (hB 12 _ _ 13 _ rfl rfl).2
  have B1 := B1.up hN1
  have B2 := B2.up hN1
  have B8 := B8.up hN1
  have N := new_trans N hN1
  generalize g 12 = p5 at *
  clear hB hD g hN1
  try clear c1
  try clear l1
  have c1 := B1.cell; have l1 := B1.lt
  try clear c2
  try clear l2
  have c2 := B2.cell; have l2 := B2.lt
  try clear c8
  try clear l8
  have c8 := B8.cell; have l8 := B8.lt
  try clear c5
  try clear l5
  have c5 := B5.cell; have l5 := B5.lt
  go_wp2_with fail
  apply region_okA
  case hm => kernel_rfl
  case hall =>
    apply allok_cons
    · exact ok_val _ fun ρ w' hN hc hF h0 hp => by have h0 := h0 0 rfl; (conv at h0 => (rhs; whnf)); simp [execOp, go_sem, hc, hF, h0] <;> rfl
    apply allok_cons
    · exact ok_val _ fun ρ w' hN hc hF h0 hp => by have h5 := h0 5 rfl; (conv at h5 => (rhs; whnf)); have c := Blk.cell (B5.up hN); simp [execOp, go_sem, hc, hF, h5, c] <;> rfl
    apply allok_cons
    · exact ok_val _ fun ρ w' hN hc hF h0 hp => by have h1 := h0 1 rfl; (conv at h1 => (rhs; whnf)); have c := Blk.cell (B1.up hN); simp [execOp, go_sem, hc, hF, h1, c] <;> rfl
    apply allok_cons
    · exact ok_val _ fun ρ w' hN hc hF h0 hp => by have h28 := hp 2 _ _ rfl rfl rfl; simp [execOp, go_sem, hc, hF, h28] <;> rfl
    apply allok_cons
    · exact ok_val _ fun ρ w' hN hc hF h0 hp => by have h29 := hp 3 _ _ rfl rfl rfl; have c := Blk.cell (B8.up hN); simp [execOp, go_sem, hc, hF, h29, c, q8, q9, q10, q11] <;> rfl
    apply allok_cons
    · exact ok_val _ fun ρ w' hN hc hF h0 hp => by have h2 := h0 2 rfl; (conv at h2 => (rhs; whnf)); have c := Blk.cell (B2.up hN); simp [execOp, go_sem, hc, hF, h2, c] <;> rfl
    apply allok_cons
    · refine ok_callv 11 _ _ _ _ _ _ rfl Try.func11 (by kernel_rfl) (by kernel_rfl) ?ht ?hx (unhide h2); (case ht => (intro a h0 hp; have h26 := hp 0 _ _ rfl rfl rfl; simp [h26])); (case hx => (intro a h0 hp; have h26 := hp 0 _ _ rfl rfl rfl; have h27 := hp 1 _ _ rfl rfl rfl; have h30 := hp 4 _ _ rfl rfl rfl; have h31 := hp 5 _ _ rfl rfl rfl; simp [h26, h27, h30, h31]))
    apply allok_cons
    · exact ok_val _ fun ρ w' hN hc hF h0 hp => by have h32 := hp 6 _ _ rfl rfl rfl; simp [execOp, go_sem, hc, hF, h32] <;> rfl
    apply allok_cons
    · exact ok_val _ fun ρ w' hN hc hF h0 hp => by have h25 := hp 7 _ _ rfl rfl rfl; simp [execOp, go_sem, hc, hF, h25] <;> rfl
    apply allok_cons
    · exact ok_val _ fun ρ w' hN hc hF h0 hp => by have h25 := hp 7 _ _ rfl rfl rfl; simp [execOp, go_sem, hc, hF, h25] <;> rfl
    apply allok_cons
    · exact ok_alloc _ _ rfl zero_u
    apply allok_cons
    · exact ok_store _ 10 7 33 8 _ _ rfl rfl rfl rfl rfl rfl rfl rfl size_u rfl (by simp [Value.oneCell'])
    apply allok_cons
    · exact ok_val _ fun ρ w' hN hc hF h0 hp => by have h34 := hp 9 _ _ rfl rfl rfl; simp [execOp, go_sem, hc, hF, h34] <;> rfl
    exact allok_nil
  case hops => kernel_rfl
  case hlen => rfl
  case hputs => rfl
  intro g v2 hN1 hB hD
  simp [frame, gives, Act.put]
  have kk7 := (hB 10 _ _ 11 _ rfl rfl).1
  have B7 : Blk v2 (g 10) _ _ := (hB 10 _ _ 11 _ rfl rfl).2
  have B1 := B1.up hN1
  have B2 := B2.up hN1
  have B8 := B8.up hN1
  have N := new_trans N hN1
  generalize g 10 = p7 at *
  clear hB hD g hN1
  try clear c1
  try clear l1
  have c1 := B1.cell; have l1 := B1.lt
  try clear c2
  try clear l2
  have c2 := B2.cell; have l2 := B2.lt
  try clear c8
  try clear l8
  have c8 := B8.cell; have l8 := B8.lt
  try clear c7
  try clear l7
  have c7 := B7.cell; have l7 := B7.lt
  go_wp2_with fail
  apply region_okA
  case hm => kernel_rfl
  case hall =>
    apply allok_cons
    · exact ok_val _ fun ρ w' hN hc hF h0 hp => by have h0 := h0 0 rfl; (conv at h0 => (rhs; whnf)); simp [execOp, go_sem, hc, hF, h0] <;> rfl
    apply allok_cons
    · exact ok_val _ fun ρ w' hN hc hF h0 hp => by have h1 := h0 1 rfl; (conv at h1 => (rhs; whnf)); have c := Blk.cell (B1.up hN); simp [execOp, go_sem, hc, hF, h1, c] <;> rfl
    apply allok_cons
    · exact ok_val _ fun ρ w' hN hc hF h0 hp => by have h37 := hp 1 _ _ rfl rfl rfl; simp [execOp, go_sem, hc, hF, h37] <;> rfl
    apply allok_cons
    · exact ok_val _ fun ρ w' hN hc hF h0 hp => by have h38 := hp 2 _ _ rfl rfl rfl; have c := Blk.cell (B8.up hN); simp [execOp, go_sem, hc, hF, h38, c, q4, q5, q6, q7] <;> rfl
    apply allok_cons
    · exact ok_val _ fun ρ w' hN hc hF h0 hp => by have h1 := h0 1 rfl; (conv at h1 => (rhs; whnf)); have c := Blk.cell (B1.up hN); simp [execOp, go_sem, hc, hF, h1, c] <;> rfl
    apply allok_cons
    · exact ok_val _ fun ρ w' hN hc hF h0 hp => by have h40 := hp 4 _ _ rfl rfl rfl; simp [execOp, go_sem, hc, hF, h40] <;> rfl
    apply allok_cons
    · exact ok_val _ fun ρ w' hN hc hF h0 hp => by have h41 := hp 5 _ _ rfl rfl rfl; have c := Blk.cell (B8.up hN); simp [execOp, go_sem, hc, hF, h41, c, q8, q9, q10, q11] <;> rfl
    apply allok_cons
    · exact ok_val _ fun ρ w' hN hc hF h0 hp => by have h2 := h0 2 rfl; (conv at h2 => (rhs; whnf)); have c := Blk.cell (B2.up hN); simp [execOp, go_sem, hc, hF, h2, c] <;> rfl
    apply allok_cons
    · refine ok_callv 11 _ _ _ _ _ _ rfl Try.func11 (by kernel_rfl) (by kernel_rfl) ?ht ?hx (unhide h3); (case ht => (intro a h0 hp; have h36 := hp 0 _ _ rfl rfl rfl; simp [h36])); (case hx => (intro a h0 hp; have h36 := hp 0 _ _ rfl rfl rfl; have h39 := hp 3 _ _ rfl rfl rfl; have h42 := hp 6 _ _ rfl rfl rfl; have h43 := hp 7 _ _ rfl rfl rfl; simp [h36, h39, h42, h43]))
    apply allok_cons
    · exact ok_val _ fun ρ w' hN hc hF h0 hp => by have h44 := hp 8 _ _ rfl rfl rfl; simp [execOp, go_sem, hc, hF, h44] <;> rfl
    apply allok_cons
    · exact ok_val _ fun ρ w' hN hc hF h0 hp => by have h35 := hp 9 _ _ rfl rfl rfl; simp [execOp, go_sem, hc, hF, h35] <;> rfl
    apply allok_cons
    · exact ok_val _ fun ρ w' hN hc hF h0 hp => by have h35 := hp 9 _ _ rfl rfl rfl; simp [execOp, go_sem, hc, hF, h35] <;> rfl
    apply allok_cons
    · exact ok_alloc _ _ rfl zero_u
    apply allok_cons
    · exact ok_store _ 12 9 45 10 _ _ rfl rfl rfl rfl rfl rfl rfl rfl size_u rfl (by simp [Value.oneCell'])
    apply allok_cons
    · exact ok_val _ fun ρ w' hN hc hF h0 hp => by have h46 := hp 11 _ _ rfl rfl rfl; simp [execOp, go_sem, hc, hF, h46] <;> rfl
    exact allok_nil
  case hops => kernel_rfl
  case hlen => rfl
  case hputs => rfl
  intro g v3 hN1 hB hD
  simp [frame, gives, Act.put]
  have kk9 := (hB 12 _ _ 13 _ rfl rfl).1
  have B9 : Blk v3 (g 12) _ _ := (hB 12 _ _ 13 _ rfl rfl).2
  have B1 := B1.up hN1
  have B2 := B2.up hN1
  have B8 := B8.up hN1
  have B7 := B7.up hN1
  have N := new_trans N hN1
  generalize g 12 = p9 at *
  clear hB hD g hN1
  try clear c1
  try clear l1
  have c1 := B1.cell; have l1 := B1.lt
  try clear c2
  try clear l2
  have c2 := B2.cell; have l2 := B2.lt
  try clear c8
  try clear l8
  have c8 := B8.cell; have l8 := B8.lt
  try clear c7
  try clear l7
  have c7 := B7.cell; have l7 := B7.lt
  try clear c9
  try clear l9
  have c9 := B9.cell; have l9 := B9.lt
  go_wp2_with fail
  apply region_okA
  case hm => kernel_rfl
  case hall =>
    apply allok_cons
    · exact ok_val _ fun ρ w' hN hc hF h0 hp => by have h0 := h0 0 rfl; (conv at h0 => (rhs; whnf)); simp [execOp, go_sem, hc, hF, h0] <;> rfl
    apply allok_cons
    · exact ok_val _ fun ρ w' hN hc hF h0 hp => by have h1 := h0 1 rfl; (conv at h1 => (rhs; whnf)); have c := Blk.cell (B1.up hN); simp [execOp, go_sem, hc, hF, h1, c] <;> rfl
    apply allok_cons
    · exact ok_val _ fun ρ w' hN hc hF h0 hp => by have h49 := hp 1 _ _ rfl rfl rfl; simp [execOp, go_sem, hc, hF, h49] <;> rfl
    apply allok_cons
    · exact ok_val _ fun ρ w' hN hc hF h0 hp => by have h50 := hp 2 _ _ rfl rfl rfl; have c := Blk.cell (B8.up hN); simp [execOp, go_sem, hc, hF, h50, c, q0, q1, q2, q3] <;> rfl
    apply allok_cons
    · exact ok_val _ fun ρ w' hN hc hF h0 hp => by have h9 := h0 9 rfl; (conv at h9 => (rhs; whnf)); have c := Blk.cell (B9.up hN); simp [execOp, go_sem, hc, hF, h9, c] <;> rfl
    apply allok_cons
    · exact ok_val _ fun ρ w' hN hc hF h0 hp => by have h2 := h0 2 rfl; (conv at h2 => (rhs; whnf)); have c := Blk.cell (B2.up hN); simp [execOp, go_sem, hc, hF, h2, c] <;> rfl
    apply allok_cons
    · refine ok_callv 11 _ _ _ _ _ _ rfl Try.func11 (by kernel_rfl) (by kernel_rfl) ?ht ?hx (unhide h4); (case ht => (intro a h0 hp; have h48 := hp 0 _ _ rfl rfl rfl; simp [h48])); (case hx => (intro a h0 hp; have h48 := hp 0 _ _ rfl rfl rfl; have h51 := hp 3 _ _ rfl rfl rfl; have h52 := hp 4 _ _ rfl rfl rfl; have h53 := hp 5 _ _ rfl rfl rfl; simp [h48, h51, h52, h53]))
    apply allok_cons
    · exact ok_val _ fun ρ w' hN hc hF h0 hp => by have h54 := hp 6 _ _ rfl rfl rfl; simp [execOp, go_sem, hc, hF, h54] <;> rfl
    apply allok_cons
    · exact ok_val _ fun ρ w' hN hc hF h0 hp => by have h47 := hp 7 _ _ rfl rfl rfl; simp [execOp, go_sem, hc, hF, h47] <;> rfl
    apply allok_cons
    · exact ok_val _ fun ρ w' hN hc hF h0 hp => by have h47 := hp 7 _ _ rfl rfl rfl; simp [execOp, go_sem, hc, hF, h47] <;> rfl
    apply allok_cons
    · exact ok_alloc _ _ rfl zero_u
    apply allok_cons
    · exact ok_store _ 10 11 55 8 _ _ rfl rfl rfl rfl rfl rfl rfl rfl size_u rfl (by simp [Value.oneCell'])
    apply allok_cons
    · exact ok_val _ fun ρ w' hN hc hF h0 hp => by have h56 := hp 9 _ _ rfl rfl rfl; simp [execOp, go_sem, hc, hF, h56] <;> rfl
    exact allok_nil
  case hops => kernel_rfl
  case hlen => rfl
  case hputs => rfl
  intro g v4 hN1 hB hD
  simp [frame, gives, Act.put]
  have kk11 := (hB 10 _ _ 11 _ rfl rfl).1
  have B11 : Blk v4 (g 10) _ _ := (hB 10 _ _ 11 _ rfl rfl).2
  have B7 := B7.up hN1
  have N := new_trans N hN1
  generalize g 10 = p11 at *
  clear hB hD g hN1
  try clear c7
  try clear l7
  have c7 := B7.cell; have l7 := B7.lt
  try clear c11
  try clear l11
  have c11 := B11.cell; have l11 := B11.lt
  go_wp2
  go_ret
  exact ⟨by simp, by (repeat' (first | with_reducible exact new_refl _ | with_reducible assumption | with_reducible refine new_drewN ?_ _ | with_reducible refine new_drew ?_ | with_reducible refine new_alloc ?_ _ | with_reducible refine new_set ?_ ?_ _ | with_reducible refine new_freeze ?_ ?_ _ | with_reducible refine new_trans ?_ (by assumption) | (simp; done) | (simp; omega)))⟩

set_option maxHeartbeats 4000000 in
theorem three_Mul (x y z n ab bc p g gl gn cap : Nat) (cur : Array Value) (tl : TypeId) (w : World)
    (h1 : ∀ w, Calls Try.prog 12 #[u x, u y, u n] w fun e w' => e = .returned (.tuple #[u ab, .int .i64 0]) ∧ New w w')
    (h2 : ∀ w, Calls Try.prog 12 #[u ab, u z, u n] w fun e w' => e = .returned (.tuple #[u p, .int .i64 0]) ∧ New w w')
    (h3 : ∀ w, Calls Try.prog 12 #[u y, u z, u n] w fun e w' => e = .returned (.tuple #[u bc, .int .i64 0]) ∧ New w w')
    (h4 : ∀ w, Calls Try.prog 12 #[u x, u bc, u n] w fun e w' => e = .returned (.tuple #[u p, .int .i64 0]) ∧ New w w')
    (B1 : Blk w gl tl #[.slice (some ⟨g, 0, none⟩) 3 cap]) (B8 : Blk w g 26 cur) (B2 : Blk w gn 26 (uc n))
    (hq : ∀ (i : Nat) (v : Value), (cl [x, y, z])[i]? = some v → cur[i]? = some v) :
    Calls Try.prog 15 #[.func (.func 12) #[] #[], .pointer (some ⟨gl, 0, none⟩), .pointer (some ⟨gn, 0, none⟩)] w fun e w' => e = .returned (.bool true) ∧ New w w' := by
  have q0 := hq 0 _ rfl; have q1 := hq 1 _ rfl; have q2 := hq 2 _ rfl; have q3 := hq 3 _ rfl
  have q4 := hq 4 _ rfl; have q5 := hq 5 _ rfl; have q6 := hq 6 _ rfl; have q7 := hq 7 _ rfl
  have q8 := hq 8 _ rfl; have q9 := hq 9 _ rfl; have q10 := hq 10 _ rfl; have q11 := hq 11 _ rfl
  have h1 := hide h1; have h2 := hide h2; have h3 := hide h3; have h4 := hide h4
  clear hq
  have N := new_refl w
  have c1 := B1.cell; have c2 := B2.cell; have c8 := B8.cell; have l1 := B1.lt; have l2 := B2.lt; have l8 := B8.lt
  go_enter Try.func15, Try.ntmps15
  go_wp2_with fail
  apply region_okA
  case hm => kernel_rfl
  case hall =>
    apply allok_cons
    · exact ok_val _ fun ρ w' hN hc hF h0 hp => by have h0 := h0 0 rfl; (conv at h0 => (rhs; whnf)); simp [execOp, go_sem, hc, hF, h0] <;> rfl
    apply allok_cons
    · exact ok_val _ fun ρ w' hN hc hF h0 hp => by have h1 := h0 1 rfl; (conv at h1 => (rhs; whnf)); have c := Blk.cell (B1.up hN); simp [execOp, go_sem, hc, hF, h1, c] <;> rfl
    apply allok_cons
    · exact ok_val _ fun ρ w' hN hc hF h0 hp => by have h15 := hp 1 _ _ rfl rfl rfl; simp [execOp, go_sem, hc, hF, h15] <;> rfl
    apply allok_cons
    · exact ok_val _ fun ρ w' hN hc hF h0 hp => by have h16 := hp 2 _ _ rfl rfl rfl; have c := Blk.cell (B8.up hN); simp [execOp, go_sem, hc, hF, h16, c, q0, q1, q2, q3] <;> rfl
    apply allok_cons
    · exact ok_val _ fun ρ w' hN hc hF h0 hp => by have h1 := h0 1 rfl; (conv at h1 => (rhs; whnf)); have c := Blk.cell (B1.up hN); simp [execOp, go_sem, hc, hF, h1, c] <;> rfl
    apply allok_cons
    · exact ok_val _ fun ρ w' hN hc hF h0 hp => by have h18 := hp 4 _ _ rfl rfl rfl; simp [execOp, go_sem, hc, hF, h18] <;> rfl
    apply allok_cons
    · exact ok_val _ fun ρ w' hN hc hF h0 hp => by have h19 := hp 5 _ _ rfl rfl rfl; have c := Blk.cell (B8.up hN); simp [execOp, go_sem, hc, hF, h19, c, q4, q5, q6, q7] <;> rfl
    apply allok_cons
    · exact ok_val _ fun ρ w' hN hc hF h0 hp => by have h2 := h0 2 rfl; (conv at h2 => (rhs; whnf)); have c := Blk.cell (B2.up hN); simp [execOp, go_sem, hc, hF, h2, c] <;> rfl
    apply allok_cons
    · refine ok_callv 12 _ _ _ _ _ _ rfl Try.func12 (by kernel_rfl) (by kernel_rfl) ?ht ?hx (unhide h1); (case ht => (intro a h0 hp; have h14 := hp 0 _ _ rfl rfl rfl; simp [h14])); (case hx => (intro a h0 hp; have h14 := hp 0 _ _ rfl rfl rfl; have h17 := hp 3 _ _ rfl rfl rfl; have h20 := hp 6 _ _ rfl rfl rfl; have h21 := hp 7 _ _ rfl rfl rfl; simp [h14, h17, h20, h21]))
    apply allok_cons
    · exact ok_val _ fun ρ w' hN hc hF h0 hp => by have h22 := hp 8 _ _ rfl rfl rfl; simp [execOp, go_sem, hc, hF, h22] <;> rfl
    apply allok_cons
    · exact ok_val _ fun ρ w' hN hc hF h0 hp => by have h13 := hp 9 _ _ rfl rfl rfl; simp [execOp, go_sem, hc, hF, h13] <;> rfl
    apply allok_cons
    · exact ok_val _ fun ρ w' hN hc hF h0 hp => by have h13 := hp 9 _ _ rfl rfl rfl; simp [execOp, go_sem, hc, hF, h13] <;> rfl
    apply allok_cons
    · exact ok_alloc _ _ rfl zero_u
    apply allok_cons
    · exact ok_store _ 12 5 23 10 _ _ rfl rfl rfl rfl rfl rfl rfl rfl size_u rfl (by simp [Value.oneCell'])
    apply allok_cons
    · exact ok_val _ fun ρ w' hN hc hF h0 hp => by have h24 := hp 11 _ _ rfl rfl rfl; simp [execOp, go_sem, hc, hF, h24] <;> rfl
    exact allok_nil
  case hops => kernel_rfl
  case hlen => rfl
  case hputs => rfl
  intro g v1 hN1 hB hD
  simp [frame, gives, Act.put]
  have kk5 := (hB 12 _ _ 13 _ rfl rfl).1
  have B5 : Blk v1 (g 12) _ _ := (hB 12 _ _ 13 _ rfl rfl).2
  have B1 := B1.up hN1
  have B2 := B2.up hN1
  have B8 := B8.up hN1
  have N := new_trans N hN1
  generalize g 12 = p5 at *
  clear hB hD g hN1
  try clear c1
  try clear l1
  have c1 := B1.cell; have l1 := B1.lt
  try clear c2
  try clear l2
  have c2 := B2.cell; have l2 := B2.lt
  try clear c8
  try clear l8
  have c8 := B8.cell; have l8 := B8.lt
  try clear c5
  try clear l5
  have c5 := B5.cell; have l5 := B5.lt
  go_wp2_with fail
  apply region_okA
  case hm => kernel_rfl
  case hall =>
    apply allok_cons
    · exact ok_val _ fun ρ w' hN hc hF h0 hp => by have h0 := h0 0 rfl; (conv at h0 => (rhs; whnf)); simp [execOp, go_sem, hc, hF, h0] <;> rfl
    apply allok_cons
    · exact ok_val _ fun ρ w' hN hc hF h0 hp => by have h5 := h0 5 rfl; (conv at h5 => (rhs; whnf)); have c := Blk.cell (B5.up hN); simp [execOp, go_sem, hc, hF, h5, c] <;> rfl
    apply allok_cons
    · exact ok_val _ fun ρ w' hN hc hF h0 hp => by have h1 := h0 1 rfl; (conv at h1 => (rhs; whnf)); have c := Blk.cell (B1.up hN); simp [execOp, go_sem, hc, hF, h1, c] <;> rfl
    apply allok_cons
    · exact ok_val _ fun ρ w' hN hc hF h0 hp => by have h28 := hp 2 _ _ rfl rfl rfl; simp [execOp, go_sem, hc, hF, h28] <;> rfl
    apply allok_cons
    · exact ok_val _ fun ρ w' hN hc hF h0 hp => by have h29 := hp 3 _ _ rfl rfl rfl; have c := Blk.cell (B8.up hN); simp [execOp, go_sem, hc, hF, h29, c, q8, q9, q10, q11] <;> rfl
    apply allok_cons
    · exact ok_val _ fun ρ w' hN hc hF h0 hp => by have h2 := h0 2 rfl; (conv at h2 => (rhs; whnf)); have c := Blk.cell (B2.up hN); simp [execOp, go_sem, hc, hF, h2, c] <;> rfl
    apply allok_cons
    · refine ok_callv 12 _ _ _ _ _ _ rfl Try.func12 (by kernel_rfl) (by kernel_rfl) ?ht ?hx (unhide h2); (case ht => (intro a h0 hp; have h26 := hp 0 _ _ rfl rfl rfl; simp [h26])); (case hx => (intro a h0 hp; have h26 := hp 0 _ _ rfl rfl rfl; have h27 := hp 1 _ _ rfl rfl rfl; have h30 := hp 4 _ _ rfl rfl rfl; have h31 := hp 5 _ _ rfl rfl rfl; simp [h26, h27, h30, h31]))
    apply allok_cons
    · exact ok_val _ fun ρ w' hN hc hF h0 hp => by have h32 := hp 6 _ _ rfl rfl rfl; simp [execOp, go_sem, hc, hF, h32] <;> rfl
    apply allok_cons
    · exact ok_val _ fun ρ w' hN hc hF h0 hp => by have h25 := hp 7 _ _ rfl rfl rfl; simp [execOp, go_sem, hc, hF, h25] <;> rfl
    apply allok_cons
    · exact ok_val _ fun ρ w' hN hc hF h0 hp => by have h25 := hp 7 _ _ rfl rfl rfl; simp [execOp, go_sem, hc, hF, h25] <;> rfl
    apply allok_cons
    · exact ok_alloc _ _ rfl zero_u
    apply allok_cons
    · exact ok_store _ 10 7 33 8 _ _ rfl rfl rfl rfl rfl rfl rfl rfl size_u rfl (by simp [Value.oneCell'])
    apply allok_cons
    · exact ok_val _ fun ρ w' hN hc hF h0 hp => by have h34 := hp 9 _ _ rfl rfl rfl; simp [execOp, go_sem, hc, hF, h34] <;> rfl
    exact allok_nil
  case hops => kernel_rfl
  case hlen => rfl
  case hputs => rfl
  intro g v2 hN1 hB hD
  simp [frame, gives, Act.put]
  have kk7 := (hB 10 _ _ 11 _ rfl rfl).1
  have B7 : Blk v2 (g 10) _ _ := (hB 10 _ _ 11 _ rfl rfl).2
  have B1 := B1.up hN1
  have B2 := B2.up hN1
  have B8 := B8.up hN1
  have N := new_trans N hN1
  generalize g 10 = p7 at *
  clear hB hD g hN1
  try clear c1
  try clear l1
  have c1 := B1.cell; have l1 := B1.lt
  try clear c2
  try clear l2
  have c2 := B2.cell; have l2 := B2.lt
  try clear c8
  try clear l8
  have c8 := B8.cell; have l8 := B8.lt
  try clear c7
  try clear l7
  have c7 := B7.cell; have l7 := B7.lt
  go_wp2_with fail
  apply region_okA
  case hm => kernel_rfl
  case hall =>
    apply allok_cons
    · exact ok_val _ fun ρ w' hN hc hF h0 hp => by have h0 := h0 0 rfl; (conv at h0 => (rhs; whnf)); simp [execOp, go_sem, hc, hF, h0] <;> rfl
    apply allok_cons
    · exact ok_val _ fun ρ w' hN hc hF h0 hp => by have h1 := h0 1 rfl; (conv at h1 => (rhs; whnf)); have c := Blk.cell (B1.up hN); simp [execOp, go_sem, hc, hF, h1, c] <;> rfl
    apply allok_cons
    · exact ok_val _ fun ρ w' hN hc hF h0 hp => by have h37 := hp 1 _ _ rfl rfl rfl; simp [execOp, go_sem, hc, hF, h37] <;> rfl
    apply allok_cons
    · exact ok_val _ fun ρ w' hN hc hF h0 hp => by have h38 := hp 2 _ _ rfl rfl rfl; have c := Blk.cell (B8.up hN); simp [execOp, go_sem, hc, hF, h38, c, q4, q5, q6, q7] <;> rfl
    apply allok_cons
    · exact ok_val _ fun ρ w' hN hc hF h0 hp => by have h1 := h0 1 rfl; (conv at h1 => (rhs; whnf)); have c := Blk.cell (B1.up hN); simp [execOp, go_sem, hc, hF, h1, c] <;> rfl
    apply allok_cons
    · exact ok_val _ fun ρ w' hN hc hF h0 hp => by have h40 := hp 4 _ _ rfl rfl rfl; simp [execOp, go_sem, hc, hF, h40] <;> rfl
    apply allok_cons
    · exact ok_val _ fun ρ w' hN hc hF h0 hp => by have h41 := hp 5 _ _ rfl rfl rfl; have c := Blk.cell (B8.up hN); simp [execOp, go_sem, hc, hF, h41, c, q8, q9, q10, q11] <;> rfl
    apply allok_cons
    · exact ok_val _ fun ρ w' hN hc hF h0 hp => by have h2 := h0 2 rfl; (conv at h2 => (rhs; whnf)); have c := Blk.cell (B2.up hN); simp [execOp, go_sem, hc, hF, h2, c] <;> rfl
    apply allok_cons
    · refine ok_callv 12 _ _ _ _ _ _ rfl Try.func12 (by kernel_rfl) (by kernel_rfl) ?ht ?hx (unhide h3); (case ht => (intro a h0 hp; have h36 := hp 0 _ _ rfl rfl rfl; simp [h36])); (case hx => (intro a h0 hp; have h36 := hp 0 _ _ rfl rfl rfl; have h39 := hp 3 _ _ rfl rfl rfl; have h42 := hp 6 _ _ rfl rfl rfl; have h43 := hp 7 _ _ rfl rfl rfl; simp [h36, h39, h42, h43]))
    apply allok_cons
    · exact ok_val _ fun ρ w' hN hc hF h0 hp => by have h44 := hp 8 _ _ rfl rfl rfl; simp [execOp, go_sem, hc, hF, h44] <;> rfl
    apply allok_cons
    · exact ok_val _ fun ρ w' hN hc hF h0 hp => by have h35 := hp 9 _ _ rfl rfl rfl; simp [execOp, go_sem, hc, hF, h35] <;> rfl
    apply allok_cons
    · exact ok_val _ fun ρ w' hN hc hF h0 hp => by have h35 := hp 9 _ _ rfl rfl rfl; simp [execOp, go_sem, hc, hF, h35] <;> rfl
    apply allok_cons
    · exact ok_alloc _ _ rfl zero_u
    apply allok_cons
    · exact ok_store _ 12 9 45 10 _ _ rfl rfl rfl rfl rfl rfl rfl rfl size_u rfl (by simp [Value.oneCell'])
    apply allok_cons
    · exact ok_val _ fun ρ w' hN hc hF h0 hp => by have h46 := hp 11 _ _ rfl rfl rfl; simp [execOp, go_sem, hc, hF, h46] <;> rfl
    exact allok_nil
  case hops => kernel_rfl
  case hlen => rfl
  case hputs => rfl
  intro g v3 hN1 hB hD
  simp [frame, gives, Act.put]
  have kk9 := (hB 12 _ _ 13 _ rfl rfl).1
  have B9 : Blk v3 (g 12) _ _ := (hB 12 _ _ 13 _ rfl rfl).2
  have B1 := B1.up hN1
  have B2 := B2.up hN1
  have B8 := B8.up hN1
  have B7 := B7.up hN1
  have N := new_trans N hN1
  generalize g 12 = p9 at *
  clear hB hD g hN1
  try clear c1
  try clear l1
  have c1 := B1.cell; have l1 := B1.lt
  try clear c2
  try clear l2
  have c2 := B2.cell; have l2 := B2.lt
  try clear c8
  try clear l8
  have c8 := B8.cell; have l8 := B8.lt
  try clear c7
  try clear l7
  have c7 := B7.cell; have l7 := B7.lt
  try clear c9
  try clear l9
  have c9 := B9.cell; have l9 := B9.lt
  go_wp2_with fail
  apply region_okA
  case hm => kernel_rfl
  case hall =>
    apply allok_cons
    · exact ok_val _ fun ρ w' hN hc hF h0 hp => by have h0 := h0 0 rfl; (conv at h0 => (rhs; whnf)); simp [execOp, go_sem, hc, hF, h0] <;> rfl
    apply allok_cons
    · exact ok_val _ fun ρ w' hN hc hF h0 hp => by have h1 := h0 1 rfl; (conv at h1 => (rhs; whnf)); have c := Blk.cell (B1.up hN); simp [execOp, go_sem, hc, hF, h1, c] <;> rfl
    apply allok_cons
    · exact ok_val _ fun ρ w' hN hc hF h0 hp => by have h49 := hp 1 _ _ rfl rfl rfl; simp [execOp, go_sem, hc, hF, h49] <;> rfl
    apply allok_cons
    · exact ok_val _ fun ρ w' hN hc hF h0 hp => by have h50 := hp 2 _ _ rfl rfl rfl; have c := Blk.cell (B8.up hN); simp [execOp, go_sem, hc, hF, h50, c, q0, q1, q2, q3] <;> rfl
    apply allok_cons
    · exact ok_val _ fun ρ w' hN hc hF h0 hp => by have h9 := h0 9 rfl; (conv at h9 => (rhs; whnf)); have c := Blk.cell (B9.up hN); simp [execOp, go_sem, hc, hF, h9, c] <;> rfl
    apply allok_cons
    · exact ok_val _ fun ρ w' hN hc hF h0 hp => by have h2 := h0 2 rfl; (conv at h2 => (rhs; whnf)); have c := Blk.cell (B2.up hN); simp [execOp, go_sem, hc, hF, h2, c] <;> rfl
    apply allok_cons
    · refine ok_callv 12 _ _ _ _ _ _ rfl Try.func12 (by kernel_rfl) (by kernel_rfl) ?ht ?hx (unhide h4); (case ht => (intro a h0 hp; have h48 := hp 0 _ _ rfl rfl rfl; simp [h48])); (case hx => (intro a h0 hp; have h48 := hp 0 _ _ rfl rfl rfl; have h51 := hp 3 _ _ rfl rfl rfl; have h52 := hp 4 _ _ rfl rfl rfl; have h53 := hp 5 _ _ rfl rfl rfl; simp [h48, h51, h52, h53]))
    apply allok_cons
    · exact ok_val _ fun ρ w' hN hc hF h0 hp => by have h54 := hp 6 _ _ rfl rfl rfl; simp [execOp, go_sem, hc, hF, h54] <;> rfl
    apply allok_cons
    · exact ok_val _ fun ρ w' hN hc hF h0 hp => by have h47 := hp 7 _ _ rfl rfl rfl; simp [execOp, go_sem, hc, hF, h47] <;> rfl
    apply allok_cons
    · exact ok_val _ fun ρ w' hN hc hF h0 hp => by have h47 := hp 7 _ _ rfl rfl rfl; simp [execOp, go_sem, hc, hF, h47] <;> rfl
    apply allok_cons
    · exact ok_alloc _ _ rfl zero_u
    apply allok_cons
    · exact ok_store _ 10 11 55 8 _ _ rfl rfl rfl rfl rfl rfl rfl rfl size_u rfl (by simp [Value.oneCell'])
    apply allok_cons
    · exact ok_val _ fun ρ w' hN hc hF h0 hp => by have h56 := hp 9 _ _ rfl rfl rfl; simp [execOp, go_sem, hc, hF, h56] <;> rfl
    exact allok_nil
  case hops => kernel_rfl
  case hlen => rfl
  case hputs => rfl
  intro g v4 hN1 hB hD
  simp [frame, gives, Act.put]
  have kk11 := (hB 10 _ _ 11 _ rfl rfl).1
  have B11 : Blk v4 (g 10) _ _ := (hB 10 _ _ 11 _ rfl rfl).2
  have B7 := B7.up hN1
  have N := new_trans N hN1
  generalize g 10 = p11 at *
  clear hB hD g hN1
  try clear c7
  try clear l7
  have c7 := B7.cell; have l7 := B7.lt
  try clear c11
  try clear l11
  have c11 := B11.cell; have l11 := B11.lt
  go_wp2
  go_ret
  exact ⟨by simp, by (repeat' (first | with_reducible exact new_refl _ | with_reducible assumption | with_reducible refine new_drewN ?_ _ | with_reducible refine new_drew ?_ | with_reducible refine new_alloc ?_ _ | with_reducible refine new_set ?_ ?_ _ | with_reducible refine new_freeze ?_ ?_ _ | with_reducible refine new_trans ?_ (by assumption) | (simp; done) | (simp; omega)))⟩

set_option maxHeartbeats 4000000 in
theorem walk (k1 a1 b1 k2 a2 b2 k3 a3 b3 k4 a4 b4 : Int) (s1 s2 s3 s4 : ByteArray) (w : World) :
    Calls Try.prog 4 #[.agg (raw k1 a1 b1 s1), .agg (raw k2 a2 b2 s2), .agg (raw k3 a3 b3 s3), .agg (raw k4 a4 b4 s4)] w fun e w' => e = .returned (.bool true) ∧ New w w' := by
  go_enter Try.func4, Try.ntmps4
  go_wp2_with fail
  generalize hW : World.alloc _ _ = W
  obtain ⟨N, B4, B5, B6, B7, B17⟩ := boxes5 hW
  clear hW
  generalize q17 : w.heap.size + 1 + 1 + 1 + 1 = g17 at *
  generalize q7 : w.heap.size + 1 + 1 + 1 = g7 at *
  generalize q6 : w.heap.size + 1 + 1 = g6 at *
  generalize q5 : w.heap.size + 1 = g5 at *
  have hL : Hid (w.heap.size < g5 ∧ g5 < g6 ∧ g6 < g7 ∧ g7 < g17) := hide (by omega)
  clear q5 q6 q7 q17
  try clear c4
  try clear l4
  try clear f4
  have c4 := B4.cell; have l4 := B4.lt
  try clear c5
  try clear l5
  try clear f5
  have c5 := B5.cell; have l5 := B5.lt
  try clear c6
  try clear l6
  try clear f6
  have c6 := B6.cell; have l6 := B6.lt
  try clear c7
  try clear l7
  try clear f7
  have c7 := B7.cell; have l7 := B7.lt
  try clear c17
  try clear l17
  try clear f17
  have c17 := B17.cell; have l17 := B17.lt
  refine (ring3 k1 a1 b1 s1 k2 a2 b2 s2 k3 a3 b3 s3 k4 a4 b4 s4 g17 _ _ B17).mono ?_
  rintro e w1 ⟨g8, cap, cur, rfl, hb, B8, hcap, hcur⟩
  have hn0 := mo_pos (num k1 a1 b1); have hnM := mo_lt _ (num_lt k1 a1 b1)
  generalize mo (num k1 a1 b1) = n at *
  have hx := Nat.mod_lt (num k2 a2 b2) hn0; have hy := Nat.mod_lt (num k3 a3 b3) hn0; have hz := Nat.mod_lt (num k4 a4 b4) hn0
  generalize num k2 a2 b2 % n = x at *; generalize num k3 a3 b3 % n = y at *; generalize num k4 a4 b4 % n = z at *
  have N := new_trans N hb
  have hcur := hide hcur
  clear hb B4 B5 B6 B7 B17 c4 c5 c6 c7 c17 l4 l5 l6 l7 l17 hL hcap
  have A1 := Add_to x y n ((x + y) % n) hnM hx hy rfl
  have A2 := Add_to ((x + y) % n) z n ((x + y + z) % n) hnM (Nat.mod_lt _ hn0) hz (Nat.mod_add_mod _ _ _)
  have A3 := Add_to y z n ((y + z) % n) hnM hy hz rfl
  have A4 := Add_to x ((y + z) % n) n ((x + y + z) % n) hnM hx (Nat.mod_lt _ hn0) (by rw [Nat.add_mod_mod, Nat.add_assoc])
  have M1 := Mul_to x y n (x * y % n) hnM hx hy rfl
  have M2 := Mul_to (x * y % n) z n (x * y * z % n) hnM (Nat.mod_lt _ hn0) hz (Nat.mod_mul_mod _ _ _)
  have M3 := Mul_to y z n (y * z % n) hnM hy hz rfl
  have M4 := Mul_to x (y * z % n) n (x * y * z % n) hnM hx (Nat.mod_lt _ hn0) (by rw [Nat.mul_mod_mod, Nat.mul_assoc])
  have A := hide (fun g gl gn cap cur tl w => three_Add x y z n _ _ _ g gl gn cap cur tl w A1 A2 A3 A4)
  have M := hide (fun g gl gn cap cur tl w => three_Mul x y z n _ _ _ g gl gn cap cur tl w M1 M2 M3 M4)
  clear A1 A2 A3 A4 M1 M2 M3 M4 hx hy hz hn0 hnM
  go_wp2_with fail
  generalize hY : World.alloc _ _ = Y
  obtain ⟨NZ, B9, B10⟩ := boxes2 hY
  have B8 := B8.up NZ; have N := new_trans N NZ
  clear hY NZ
  refine (ftells_any _).mono ?_
  rintro e v1 ⟨rfl, hb⟩
  have U : New Y v1 := new_trans (by (repeat' (first | with_reducible exact new_refl _ | with_reducible assumption | with_reducible refine new_drewN ?_ _ | with_reducible refine new_drew ?_ | with_reducible refine new_alloc ?_ _ | with_reducible refine new_set ?_ ?_ _ | with_reducible refine new_freeze ?_ ?_ _ | with_reducible refine new_trans ?_ (by assumption) | (simp; done) | (simp; omega)))) hb
  have N : New w v1 := new_trans (by (repeat' (first | with_reducible exact new_refl _ | with_reducible assumption | with_reducible refine new_drewN ?_ _ | with_reducible refine new_drew ?_ | with_reducible refine new_alloc ?_ _ | with_reducible refine new_set ?_ ?_ _ | with_reducible refine new_freeze ?_ ?_ _ | with_reducible refine new_trans ?_ (by assumption) | (simp; done) | (simp; omega)))) hb
  have B8 := B8.up U
  have B9 := B9.up U
  have B10 := B10.up U
  try clear c8
  try clear l8
  try clear f8
  have c8 := B8.cell; have l8 := B8.lt
  try clear c9
  try clear l9
  try clear f9
  have c9 := B9.cell; have l9 := B9.lt
  try clear c10
  try clear l10
  try clear f10
  have c10 := B10.cell; have l10 := B10.lt
  clear hb U
  go_wp2_with fail
  refine (unhide A g8 _ _ cap cur _ _ B10 B8 B9 (unhide hcur)).mono ?_
  rintro e v2 ⟨rfl, hb⟩
  have U : New v1 v2 := new_trans (by (repeat' (first | with_reducible exact new_refl _ | with_reducible assumption | with_reducible refine new_drewN ?_ _ | with_reducible refine new_drew ?_ | with_reducible refine new_alloc ?_ _ | with_reducible refine new_set ?_ ?_ _ | with_reducible refine new_freeze ?_ ?_ _ | with_reducible refine new_trans ?_ (by assumption) | (simp; done) | (simp; omega)))) hb
  have N : New w v2 := new_trans (by (repeat' (first | with_reducible exact new_refl _ | with_reducible assumption | with_reducible refine new_drewN ?_ _ | with_reducible refine new_drew ?_ | with_reducible refine new_alloc ?_ _ | with_reducible refine new_set ?_ ?_ _ | with_reducible refine new_freeze ?_ ?_ _ | with_reducible refine new_trans ?_ (by assumption) | (simp; done) | (simp; omega)))) hb
  have B8 := B8.up U
  have B9 := B9.up U
  have B10 := B10.up U
  try clear c8
  try clear l8
  try clear f8
  have c8 := B8.cell; have l8 := B8.lt
  try clear c9
  try clear l9
  try clear f9
  have c9 := B9.cell; have l9 := B9.lt
  try clear c10
  try clear l10
  try clear f10
  have c10 := B10.cell; have l10 := B10.lt
  clear hb U
  go_wp2_with fail
  refine (unhide M g8 _ _ cap cur _ _ B10 B8 B9 (unhide hcur)).mono ?_
  rintro e v3 ⟨rfl, hb⟩
  have U : New v2 v3 := new_trans (by (repeat' (first | with_reducible exact new_refl _ | with_reducible assumption | with_reducible refine new_drewN ?_ _ | with_reducible refine new_drew ?_ | with_reducible refine new_alloc ?_ _ | with_reducible refine new_set ?_ ?_ _ | with_reducible refine new_freeze ?_ ?_ _ | with_reducible refine new_trans ?_ (by assumption) | (simp; done) | (simp; omega)))) hb
  have N : New w v3 := new_trans (by (repeat' (first | with_reducible exact new_refl _ | with_reducible assumption | with_reducible refine new_drewN ?_ _ | with_reducible refine new_drew ?_ | with_reducible refine new_alloc ?_ _ | with_reducible refine new_set ?_ ?_ _ | with_reducible refine new_freeze ?_ ?_ _ | with_reducible refine new_trans ?_ (by assumption) | (simp; done) | (simp; omega)))) hb
  have B8 := B8.up U
  have B9 := B9.up U
  have B10 := B10.up U
  try clear c8
  try clear l8
  try clear f8
  have c8 := B8.cell; have l8 := B8.lt
  try clear c9
  try clear l9
  try clear f9
  have c9 := B9.cell; have l9 := B9.lt
  try clear c10
  try clear l10
  try clear f10
  have c10 := B10.cell; have l10 := B10.lt
  clear hb U
  go_wp2
  go_ret
  exact ⟨by simp, by (repeat' (first | with_reducible exact new_refl _ | with_reducible assumption | with_reducible refine new_drewN ?_ _ | with_reducible refine new_drew ?_ | with_reducible refine new_alloc ?_ _ | with_reducible refine new_set ?_ ?_ _ | with_reducible refine new_freeze ?_ ?_ _ | with_reducible refine new_trans ?_ (by assumption) | (simp; done) | (simp; omega)))⟩

set_option maxRecDepth 100000 in
theorem lifted (os : Os) (started : os.Started) (H : Type) (enc : TypeId × Value → H) :
    ReturnsInHanded {} Try.checked os 4 .any (Rows.fieldGroupsSpec.pre6 enc Try.prog Try.f4 Rows.fieldGroupsRow.domain false) (Rows.fieldGroupsSpec.post enc Try.prog Try.f4 false true false false) := by
  refine returnsInHanded_of_change (C := Try.checked) own started (by kernel_rfl) Try.func4
    (ChangeSpec.witness6 (enc := enc) (C := Try.checked) false ⟨#[], #[.agg #[.int .i64 0, .int .i64 0, .int .i64 0, .string ⟨#[]⟩], .agg #[.int .i64 0, .int .i64 0, .int .i64 0, .string ⟨#[]⟩], .agg #[.int .i64 0, .int .i64 0, .int .i64 0, .string ⟨#[]⟩], .agg #[.int .i64 0, .int .i64 0, .int .i64 0, .string ⟨#[]⟩]], []⟩ 8 (by kernel_rfl) (by kernel_rfl) (by kernel_rfl) (by kernel_rfl)) ?_
  intro W base args ds gs before hval0 hW hcnd _
  have hval : ∀ (j : Nat) t v, Try.f4.params[j]? = some t → args[j]? = some v → Value.okWide Try.prog W .any base t v := hval0
  have hW' := hW
  obtain ⟨p, q, hA0, hV, rfl, hfz, hnd⟩ := hW
  have hA : DataW.TrodAll enc Try.prog W 0 (fun _ => true) true Try.f4.params.toList args.toList ds p := hA0
  rw [Try.params4] at hA hval
  obtain ⟨v0, vs0, d0, ds0, p0, q0, hargs, rfl, rfl, h0, r0⟩ := trodAll_cons hA
  obtain ⟨v1, vs1, d1, ds1, p1, q1, rfl, rfl, rfl, h1, r1⟩ := trodAll_cons r0
  obtain ⟨v2, vs2, d2, ds2, p2, q2, rfl, rfl, rfl, h2, r2⟩ := trodAll_cons r1
  obtain ⟨v3, vs3, d3, ds3, p3, q3, rfl, rfl, rfl, h3, r3⟩ := trodAll_cons r2
  obtain ⟨rfl, rfl, rfl⟩ := trodAll_nil r3
  obtain rfl : args = #[v0, v1, v2, v3] := by cases args; simp_all
  obtain ⟨rfl, rfl⟩ := trodVars_none hV
  obtain ⟨k1, a1, b1, s1, rfl, wk1, wa1, wb1, ws1⟩ := open_raw (hval 0 23 v0 rfl rfl) h0
  obtain ⟨k2, a2, b2, s2, rfl, wk2, wa2, wb2, ws2⟩ := open_raw (hval 1 23 v1 rfl rfl) h1
  obtain ⟨k3, a3, b3, s3, rfl, wk3, wa3, wb3, ws3⟩ := open_raw (hval 2 23 v2 rfl rfl) h2
  obtain ⟨k4, a4, b4, s4, rfl, wk4, wa4, wb4, ws4⟩ := open_raw (hval 3 23 v3 rfl rfl) h3
  refine (walk k1 a1 b1 k2 a2 b2 k3 a3 b3 k4 a4 b4 s1 s2 s3 s4 W).mono fun e W' ⟨he, hN⟩ => ?_
  subst he
  exact ⟨_, rfl, law_post laidOut (by kernel_rfl) (by kernel_rfl) Try.underlying4 rfl hW' rfl hN⟩

theorem holds : Rows.FieldGroupsSaid :=
  OpenClaim.holds_of_wide 4 Try.f4 rfl rfl rfl rfl rfl rfl rfl ⟨rfl, rfl, rfl, rfl, rfl⟩ rfl rfl rfl rfl rfl (by kernel_rfl) Try.func4 (by kernel_rfl)
    (of_decide_eq_true (by kernel_rfl)) (by unfold Func.isWrapper; first | (rw [if_pos (by decide +kernel)]; kernel_rfl) | (rw [if_neg (by decide +kernel)]; exact ⟨rfl, rfl⟩))
    (fun os started H enc _ => lifted os started H enc)

#print axioms holds
end Go.Proofs.Ytdelfiijbkhldaa.fieldGroups
