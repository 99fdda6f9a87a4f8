/- basculekeep's ring: a modulus that is not nought, and numbers below it. -/
import Derived.Test.YtdelfiijbkhldaaOwn
import Derived.Test.YtdelfiijbkhldaaField3
namespace Go.Proofs.Ytdelfiijbkhldaa
open Go.RowKit
set_option linter.unusedVariables false
set_option linter.unusedSimpArgs false

theorem div_is (a b q r : Nat) (ha : a < M256) (hb : b < M256) (hb0 : 0 < b) (hq : a / b = q) (hr : a % b = r) (w : World) :
    Calls Try.prog 20 #[u a, u b] w fun e w' => e = .returned (.tuple #[u q, u r, .int .i64 0]) ∧ New w w' := hq ▸ hr ▸ divmod_any a b ha hb hb0 w
/-- the modulus of a number -/
def mo (x : Nat) : Nat := if x = 0 then 1 else x
theorem uc_one : uc 1 = #[.int .u64 1, .int .u64 0, .int .u64 0, .int .u64 0] := Value.agg.inj u_one
theorem mo_pos (x : Nat) : 0 < mo x := by unfold mo; split <;> omega
theorem mo_lt (x : Nat) (h : x < M256) : mo x < M256 := by unfold mo; split; decide; exact h
@[reducible] def cl (l : List Nat) : List Value := l.flatMap fun r => (uc r).toList
def RingPost (n : Nat) (l : List Nat) (w : World) (e : Ending) (w' : World) : Prop :=
  ∃ (g cap : Nat) (cur : Array Value), e = .returned (.tuple #[u n, .slice (some ⟨g, 0, none⟩) l.length cap]) ∧ New w w' ∧ Blk w' g 26 cur ∧ l.length ≤ cap ∧ ∀ (i : Nat) (u : Value), (cl l)[i]? = some u → cur[i]? = some u

theorem number_is (k a b : Int) (s : ByteArray) (x : Nat) (h : num k a b = x) (w : World) :
    Calls Try.prog 23 #[.agg #[.int .i64 k, .int .i64 a, .int .i64 b, .string s]] w fun e w' => e = .returned (u x) ∧ New w w' := h ▸ number_any k a b s w

set_option maxHeartbeats 4000000 in
theorem ring1z (k a b : Int) (s : ByteArray) (k1 a1 b1 : Int) (s1 : ByteArray) (gs : Nat) (tt : TypeId) (h0 : num k a b = 0) (w : World) (Bs : Blk w gs tt #[.int .i64 k1, .int .i64 a1, .int .i64 b1, .string s1]) :
  Calls Try.prog 10 #[.agg #[.int .i64 k, .int .i64 a, .int .i64 b, .string s], .slice (some ⟨gs, 0, none⟩) 1 1] w (RingPost (mo (num k a b)) [num k1 a1 b1 % mo (num k a b)] w) := by
  have hx := num_lt k a b
  have hx1 := num_lt k1 a1 b1
  obtain ⟨x, ex⟩ : ∃ x, num k a b = x := ⟨_, rfl⟩
  rw [ex] at h0 hx ⊢
  obtain ⟨x1, ex1⟩ : ∃ x, num k1 a1 b1 = x := ⟨_, rfl⟩; rw [ex1] at hx1 ⊢
  obtain ⟨n, en⟩ : ∃ n, mo x = n := ⟨_, rfl⟩
  have hn0 := mo_pos x; have hnM := mo_lt x hx
  rw [en] at hn0 hnM ⊢
  have n1 : n = 1 := by rw [← en, h0]; rfl
  have hn0 := hide hn0; have hnM := hide hnM; have en := hide en; have ex := hide ex; have hx := hide hx
  obtain ⟨r1, er1⟩ : ∃ r, x1 % n = r := ⟨_, rfl⟩; rw [er1]; have er1 := hide er1; have hx1 := hide hx1; have ex1 := hide ex1
  go_enter Try.func10, Try.ntmps10
  have ls := Bs.lt
  go_wp2_with fail
  generalize hW : World.alloc _ _ = W
  obtain ⟨N, B2, B4⟩ := boxes2 hW
  have Bs := Bs.up N
  clear hW ls
  have l42 : w.heap.size ≠ w.heap.size + 1 := by omega
  have cs := Bs.cell; have ls := Bs.lt
  refine (number_is k a b s x (unhide ex) _).mono ?_
  rintro e w1 ⟨rfl, hb⟩
  have U : New W w1 := new_trans (by (repeat' (first | with_reducible exact new_refl _ | with_reducible assumption | with_reducible refine new_drewN ?_ _ | with_reducible refine new_drew ?_ | with_reducible refine new_alloc ?_ _ | with_reducible refine new_set ?_ ?_ _ | with_reducible refine new_freeze ?_ ?_ _ | with_reducible refine new_trans ?_ (by assumption) | (simp; done) | (simp; omega)))) hb
  have N : New w w1 := new_trans (by (repeat' (first | with_reducible exact new_refl _ | with_reducible assumption | with_reducible refine new_drewN ?_ _ | with_reducible refine new_drew ?_ | with_reducible refine new_alloc ?_ _ | with_reducible refine new_set ?_ ?_ _ | with_reducible refine new_freeze ?_ ?_ _ | with_reducible refine new_trans ?_ (by assumption) | (simp; done) | (simp; omega)))) hb
  have Bs := Bs.up U
  have B2 := B2.up U
  have B4 := B4.up U
  try clear cs
  try clear ls
  try clear fs
  have cs := Bs.cell; have ls := Bs.lt
  try clear c2
  try clear l2
  try clear f2
  have c2 := B2.cell; have l2 := B2.lt
  try clear c4
  try clear l4
  try clear f4
  have c4 := B4.cell; have l4 := B4.lt
  clear hb U
  have n46z := Nat.ne_of_lt l4
  subst h0
  go_wp2_with fail
  generalize hY : World.alloc w1 _ = Y
  obtain ⟨M, B6⟩ := boxes1 hY
  have B6 : Blk Y w1.heap.size 26 (uc n) := by rw [n1, uc_one]; exact B6
  clear n1
  have Bs := Bs.up M; have B4 := B4.up M; have N := new_trans N M
  have j4 := hide l4; have js := hide ls; have k6 := hide (Nat.lt_of_lt_of_le (Nat.lt_succ_self _) (by rw [← hY, World.size_alloc]; exact Nat.le_refl _) : w1.heap.size < Y.heap.size)
  have kY := hide (Nat.le_trans N.size (Nat.le_refl _) : w.heap.size ≤ Y.heap.size)
  have k4 := hide (Nat.lt_trans (unhide j4) (unhide k6)); have ks := hide (Nat.lt_trans (unhide js) (unhide k6)); have n46 := hide (Nat.ne_of_lt (unhide j4)); clear j4 js
  clear hY M l2 l4 ls c2 c4 cs B2 n46z
  generalize hg6 : w1.heap.size = g6 at *
  clear hg6
  have hown := World.ownsRow_nil Y Y.heap.size 26 4
  have M := new_refl Y
  have c4 := B4.cell; have c6 := B6.cell; have cs := Bs.cell; have l4 := B4.lt; have l6 := B6.lt; have ls := Bs.lt
  refine wp_loop_rounds 2 ?_
  rw [rounds_succ]
  go_wp2_with fail
  generalize hZ : World.alloc Y _ = Z1
  obtain ⟨NZ, B9⟩ := boxes1 hZ
  have Bs := Bs.up NZ; have B4 := B4.up NZ; have B6 := B6.up NZ; have N := new_trans N NZ; have M := new_trans M NZ; have hown := own_new hown NZ
  clear hZ NZ c4 c6 cs l4 l6 ls
  apply region_okA
  case hm => kernel_rfl
  case hall =>
    apply allok_cons
    · exact ok_val _ fun ρ w' hN hc hF h0 hp => by have h9 := h0 9 rfl; (conv at h9 => (rhs; whnf)); have c := Blk.cell (B9.up hN); simp [execOp, go_sem, hc, hF, h9, c] <;> rfl
    apply allok_cons
    · refine ok_call 23 _ _ _ _ _ rfl Try.func23 (by kernel_rfl) (by kernel_rfl) ?_ (number_is k1 a1 b1 s1 x1 (unhide ex1)); intro a h0 hp; have h26 := hp 0 _ _ rfl rfl rfl; simp [h26]
    apply allok_cons
    · exact ok_val _ fun ρ w' hN hc hF h0 hp => by have h6 := h0 6 rfl; (conv at h6 => (rhs; whnf)); have c := Blk.cell (B6.up hN); simp [execOp, go_sem, hc, hF, h6, c] <;> rfl
    apply allok_cons
    · refine ok_call 20 _ _ _ _ _ rfl Try.func20 (by kernel_rfl) (by kernel_rfl) ?_ (div_is x1 n _ r1 (unhide hx1) (unhide hnM) (unhide hn0) rfl (unhide er1)); intro a h0 hp; have h27 := hp 1 _ _ rfl rfl rfl; have h28 := hp 2 _ _ rfl rfl rfl; simp [h27, h28]
    apply allok_cons
    · exact ok_val _ fun ρ w' hN hc hF h0 hp => by have h29 := hp 3 _ _ rfl rfl rfl; simp [execOp, go_sem, hc, hF, h29] <;> rfl
    apply allok_cons
    · exact ok_val _ fun ρ w' hN hc hF h0 hp => by have h25 := hp 4 _ _ rfl rfl rfl; simp [execOp, go_sem, hc, hF, h25] <;> rfl
    apply allok_cons
    · exact ok_val _ fun ρ w' hN hc hF h0 hp => by have h25 := hp 4 _ _ rfl rfl rfl; simp [execOp, go_sem, hc, hF, h25] <;> rfl
    apply allok_cons
    · exact ok_val _ fun ρ w' hN hc hF h0 hp => by have h25 := hp 4 _ _ rfl rfl rfl; simp [execOp, go_sem, hc, hF, h25] <;> rfl
    apply allok_cons
    · exact ok_alloc _ _ rfl zero_u
    apply allok_cons
    · exact ok_alloc _ _ rfl zero_u
    apply allok_cons
    · exact ok_store _ 8 10 30 5 _ _ rfl rfl rfl rfl rfl rfl rfl rfl size_u rfl (by simp [Value.oneCell'])
    apply allok_cons
    · exact ok_store _ 9 11 31 6 _ _ rfl rfl rfl rfl rfl rfl rfl rfl size_u rfl (by simp [Value.oneCell'])
    apply allok_cons
    · exact ok_val _ fun ρ w' hN hc hF h0 hp => by have h32 := hp 7 _ _ rfl rfl rfl; simp [execOp, go_sem, hc, hF, h32] <;> rfl
    exact allok_nil
  case hops => kernel_rfl
  case hlen => rfl
  case hputs => rfl
  intro g V1 hN1 hB hD
  simp [frame, gives, Act.put]
  have kk10 := (hB 8 _ _ 10 _ rfl rfl).1
  have B10 : Blk V1 (g 8) _ _ := (hB 8 _ _ 10 _ rfl rfl).2
  have kk11 := (hB 9 _ _ 11 _ rfl rfl).1
  have B11 : Blk V1 (g 9) _ _ := (hB 9 _ _ 11 _ rfl rfl).2
  have hown := own_new hown hN1
  have M := new_trans M hN1
  have Bs := Bs.up hN1
  have B4 := B4.up hN1
  have B6 := B6.up hN1
  have N := new_trans N hN1
  have d8_9 := hD 8 9 _ _ _ _ rfl rfl (by decide)
  generalize g 8 = p10 at *
  generalize g 9 = p11 at *
  clear hB hD g hN1
  try clear cs
  try clear ls
  have cs := Bs.cell; have ls := Bs.lt
  try clear c4
  try clear l4
  have c4 := B4.cell; have l4 := B4.lt
  try clear c6
  try clear l6
  have c6 := B6.cell; have l6 := B6.lt
  try clear c10
  try clear l10
  have c10 := B10.cell; have l10 := B10.lt
  try clear c11
  try clear l11
  have c11 := B11.cell; have l11 := B11.lt
  clear B10 c10 l10
  have hown := own_new hown (new_alloc (new_refl V1) (.cells (uc r1) 26))
  go_wp2_with ((at_builtin; refine append_u rfl _ _ rfl Y.heap.size _ 0 [] rfl hown V1.heap.size _ r1 (Blk.new_ _ _ _) rfl (by omega) (Nat.le_trans M.size (by simp)) ?_; intro v1 Y1 hown1 hg))
  have OB : Hid _ := hide (⟨(Bs.al (.cells (uc r1) 26)).grown hown (unhide ks) hg, (B4.al (.cells (uc r1) 26)).grown hown (unhide k4) hg, (B6.al (.cells (uc r1) 26)).grown hown (unhide k6) hg⟩ : _ ∧ _ ∧ _)
  have N := new_grown (new_alloc N (.cells (uc r1) 26)) hown (unhide kY) hg; have M := new_grown (new_alloc M (.cells (uc r1) 26)) hown (Nat.le_refl _) hg
  clear c4 c6 cs l4 l6 ls c11 l11 B11 B9 Bs B4 B6 hg
  obtain ⟨Bs, B4, B6⟩ := unhide OB
  clear OB hown; have hown := hown1; clear hown1
  have c4 := B4.cell; have c6 := B6.cell; have cs := Bs.cell; have l4 := B4.lt; have l6 := B6.lt; have ls := Bs.lt
  rw [rounds_succ]
  have f4 := B4.free
  go_wp2
  obtain ⟨g, cap, cur, rfl, hg, OB, hcap, hcur⟩ := own_cells hown
  have c := (B4.set4 (.int .u64 (lim n 0)) (.int .u64 (lim n 1)) (.int .u64 (lim n 2)) (.int .u64 (lim n 3))).cell
  have gk4 : g ≠ w.heap.size + 1 := by have := unhide k4; omega
  exact bodyPost_ret (v := .tuple #[u n, .slice (some ⟨g, 0, none⟩) 1 cap]) (by simp [results, Try.results10, go_sem, c]) rfl ⟨g, cap, cur, rfl, new_set4 N (g := w.heap.size + 1) (by omega) _ _ _ _, OB.far4 gk4 _ _ _ _, hcap, fun i u h => hcur i u (by simpa using h)⟩

set_option maxHeartbeats 4000000 in
theorem ring1p (k a b : Int) (s : ByteArray) (k1 a1 b1 : Int) (s1 : ByteArray) (gs : Nat) (tt : TypeId) (h0 : num k a b ≠ 0) (w : World) (Bs : Blk w gs tt #[.int .i64 k1, .int .i64 a1, .int .i64 b1, .string s1]) :
  Calls Try.prog 10 #[.agg #[.int .i64 k, .int .i64 a, .int .i64 b, .string s], .slice (some ⟨gs, 0, none⟩) 1 1] w (RingPost (mo (num k a b)) [num k1 a1 b1 % mo (num k a b)] w) := by
  have hx := num_lt k a b
  have hx1 := num_lt k1 a1 b1
  obtain ⟨x, ex⟩ : ∃ x, num k a b = x := ⟨_, rfl⟩
  rw [ex] at h0 hx ⊢
  obtain ⟨x1, ex1⟩ : ∃ x, num k1 a1 b1 = x := ⟨_, rfl⟩; rw [ex1] at hx1 ⊢
  obtain ⟨n, en⟩ : ∃ n, mo x = n := ⟨_, rfl⟩
  have hn0 := mo_pos x; have hnM := mo_lt x hx
  rw [en] at hn0 hnM ⊢
  have n1 : n = x := by rw [← en]; unfold mo; rw [if_neg h0]
  subst n1
  have ez := zero_iff n hx
  rw [decide_eq_false h0] at ez
  have hn0 := hide hn0; have hnM := hide hnM; have en := hide en; have ex := hide ex; have hx := hide hx
  obtain ⟨r1, er1⟩ : ∃ r, x1 % n = r := ⟨_, rfl⟩; rw [er1]; have er1 := hide er1; have hx1 := hide hx1; have ex1 := hide ex1
  go_enter Try.func10, Try.ntmps10
  have ls := Bs.lt
  go_wp2_with fail
  generalize hW : World.alloc _ _ = W
  obtain ⟨N, B2, B4⟩ := boxes2 hW
  have Bs := Bs.up N
  clear hW ls
  have l42 : w.heap.size ≠ w.heap.size + 1 := by omega
  have cs := Bs.cell; have ls := Bs.lt
  refine (number_is k a b s n (unhide ex) _).mono ?_
  rintro e w1 ⟨rfl, hb⟩
  have U : New W w1 := new_trans (by (repeat' (first | with_reducible exact new_refl _ | with_reducible assumption | with_reducible refine new_drewN ?_ _ | with_reducible refine new_drew ?_ | with_reducible refine new_alloc ?_ _ | with_reducible refine new_set ?_ ?_ _ | with_reducible refine new_freeze ?_ ?_ _ | with_reducible refine new_trans ?_ (by assumption) | (simp; done) | (simp; omega)))) hb
  have N : New w w1 := new_trans (by (repeat' (first | with_reducible exact new_refl _ | with_reducible assumption | with_reducible refine new_drewN ?_ _ | with_reducible refine new_drew ?_ | with_reducible refine new_alloc ?_ _ | with_reducible refine new_set ?_ ?_ _ | with_reducible refine new_freeze ?_ ?_ _ | with_reducible refine new_trans ?_ (by assumption) | (simp; done) | (simp; omega)))) hb
  have Bs := Bs.up U
  have B2 := B2.up U
  have B4 := B4.up U
  try clear cs
  try clear ls
  try clear fs
  have cs := Bs.cell; have ls := Bs.lt
  try clear c2
  try clear l2
  try clear f2
  have c2 := B2.cell; have l2 := B2.lt
  try clear c4
  try clear l4
  try clear f4
  have c4 := B4.cell; have l4 := B4.lt
  clear hb U
  go_wp2_with fail
  generalize hY : World.alloc w1 _ = Y
  obtain ⟨M, B6⟩ := boxes1 hY
  have Bs := Bs.up M; have B4 := B4.up M; have N := new_trans N M
  have j4 := hide l4; have js := hide ls; have k6 := hide (Nat.lt_of_lt_of_le (Nat.lt_succ_self _) (by rw [← hY, World.size_alloc]; exact Nat.le_refl _) : w1.heap.size < Y.heap.size)
  have kY := hide (Nat.le_trans N.size (Nat.le_refl _) : w.heap.size ≤ Y.heap.size)
  have k4 := hide (Nat.lt_trans (unhide j4) (unhide k6)); have ks := hide (Nat.lt_trans (unhide js) (unhide k6)); have n46 := hide (Nat.ne_of_lt (unhide j4)); clear j4 js
  clear hY M l2 l4 ls c2 c4 cs B2 
  generalize hg6 : w1.heap.size = g6 at *
  clear hg6
  have hown := World.ownsRow_nil Y Y.heap.size 26 4
  have M := new_refl Y
  have c4 := B4.cell; have c6 := B6.cell; have cs := Bs.cell; have l4 := B4.lt; have l6 := B6.lt; have ls := Bs.lt
  refine wp_loop_rounds 2 ?_
  rw [rounds_succ]
  go_wp2_with fail
  generalize hZ : World.alloc Y _ = Z1
  obtain ⟨NZ, B9⟩ := boxes1 hZ
  have Bs := Bs.up NZ; have B4 := B4.up NZ; have B6 := B6.up NZ; have N := new_trans N NZ; have M := new_trans M NZ; have hown := own_new hown NZ
  clear hZ NZ c4 c6 cs l4 l6 ls
  apply region_okA
  case hm => kernel_rfl
  case hall =>
    apply allok_cons
    · exact ok_val _ fun ρ w' hN hc hF h0 hp => by have h9 := h0 9 rfl; (conv at h9 => (rhs; whnf)); have c := Blk.cell (B9.up hN); simp [execOp, go_sem, hc, hF, h9, c] <;> rfl
    apply allok_cons
    · refine ok_call 23 _ _ _ _ _ rfl Try.func23 (by kernel_rfl) (by kernel_rfl) ?_ (number_is k1 a1 b1 s1 x1 (unhide ex1)); intro a h0 hp; have h26 := hp 0 _ _ rfl rfl rfl; simp [h26]
    apply allok_cons
    · exact ok_val _ fun ρ w' hN hc hF h0 hp => by have h6 := h0 6 rfl; (conv at h6 => (rhs; whnf)); have c := Blk.cell (B6.up hN); simp [execOp, go_sem, hc, hF, h6, c] <;> rfl
    apply allok_cons
    · refine ok_call 20 _ _ _ _ _ rfl Try.func20 (by kernel_rfl) (by kernel_rfl) ?_ (div_is x1 n _ r1 (unhide hx1) (unhide hnM) (unhide hn0) rfl (unhide er1)); intro a h0 hp; have h27 := hp 1 _ _ rfl rfl rfl; have h28 := hp 2 _ _ rfl rfl rfl; simp [h27, h28]
    apply allok_cons
    · exact ok_val _ fun ρ w' hN hc hF h0 hp => by have h29 := hp 3 _ _ rfl rfl rfl; simp [execOp, go_sem, hc, hF, h29] <;> rfl
    apply allok_cons
    · exact ok_val _ fun ρ w' hN hc hF h0 hp => by have h25 := hp 4 _ _ rfl rfl rfl; simp [execOp, go_sem, hc, hF, h25] <;> rfl
    apply allok_cons
    · exact ok_val _ fun ρ w' hN hc hF h0 hp => by have h25 := hp 4 _ _ rfl rfl rfl; simp [execOp, go_sem, hc, hF, h25] <;> rfl
    apply allok_cons
    · exact ok_val _ fun ρ w' hN hc hF h0 hp => by have h25 := hp 4 _ _ rfl rfl rfl; simp [execOp, go_sem, hc, hF, h25] <;> rfl
    apply allok_cons
    · exact ok_alloc _ _ rfl zero_u
    apply allok_cons
    · exact ok_alloc _ _ rfl zero_u
    apply allok_cons
    · exact ok_store _ 8 10 30 5 _ _ rfl rfl rfl rfl rfl rfl rfl rfl size_u rfl (by simp [Value.oneCell'])
    apply allok_cons
    · exact ok_store _ 9 11 31 6 _ _ rfl rfl rfl rfl rfl rfl rfl rfl size_u rfl (by simp [Value.oneCell'])
    apply allok_cons
    · exact ok_val _ fun ρ w' hN hc hF h0 hp => by have h32 := hp 7 _ _ rfl rfl rfl; simp [execOp, go_sem, hc, hF, h32] <;> rfl
    exact allok_nil
  case hops => kernel_rfl
  case hlen => rfl
  case hputs => rfl
  intro g V1 hN1 hB hD
  simp [frame, gives, Act.put]
  have kk10 := (hB 8 _ _ 10 _ rfl rfl).1
  have B10 : Blk V1 (g 8) _ _ := (hB 8 _ _ 10 _ rfl rfl).2
  have kk11 := (hB 9 _ _ 11 _ rfl rfl).1
  have B11 : Blk V1 (g 9) _ _ := (hB 9 _ _ 11 _ rfl rfl).2
  have hown := own_new hown hN1
  have M := new_trans M hN1
  have Bs := Bs.up hN1
  have B4 := B4.up hN1
  have B6 := B6.up hN1
  have N := new_trans N hN1
  have d8_9 := hD 8 9 _ _ _ _ rfl rfl (by decide)
  generalize g 8 = p10 at *
  generalize g 9 = p11 at *
  clear hB hD g hN1
  try clear cs
  try clear ls
  have cs := Bs.cell; have ls := Bs.lt
  try clear c4
  try clear l4
  have c4 := B4.cell; have l4 := B4.lt
  try clear c6
  try clear l6
  have c6 := B6.cell; have l6 := B6.lt
  try clear c10
  try clear l10
  have c10 := B10.cell; have l10 := B10.lt
  try clear c11
  try clear l11
  have c11 := B11.cell; have l11 := B11.lt
  clear B10 c10 l10
  have hown := own_new hown (new_alloc (new_refl V1) (.cells (uc r1) 26))
  go_wp2_with ((at_builtin; refine append_u rfl _ _ rfl Y.heap.size _ 0 [] rfl hown V1.heap.size _ r1 (Blk.new_ _ _ _) rfl (by omega) (Nat.le_trans M.size (by simp)) ?_; intro v1 Y1 hown1 hg))
  have OB : Hid _ := hide (⟨(Bs.al (.cells (uc r1) 26)).grown hown (unhide ks) hg, (B4.al (.cells (uc r1) 26)).grown hown (unhide k4) hg, (B6.al (.cells (uc r1) 26)).grown hown (unhide k6) hg⟩ : _ ∧ _ ∧ _)
  have N := new_grown (new_alloc N (.cells (uc r1) 26)) hown (unhide kY) hg; have M := new_grown (new_alloc M (.cells (uc r1) 26)) hown (Nat.le_refl _) hg
  clear c4 c6 cs l4 l6 ls c11 l11 B11 B9 Bs B4 B6 hg
  obtain ⟨Bs, B4, B6⟩ := unhide OB
  clear OB hown; have hown := hown1; clear hown1
  have c4 := B4.cell; have c6 := B6.cell; have cs := Bs.cell; have l4 := B4.lt; have l6 := B6.lt; have ls := Bs.lt
  rw [rounds_succ]
  have f4 := B4.free
  go_wp2
  obtain ⟨g, cap, cur, rfl, hg, OB, hcap, hcur⟩ := own_cells hown
  have c := (B4.set4 (.int .u64 (lim n 0)) (.int .u64 (lim n 1)) (.int .u64 (lim n 2)) (.int .u64 (lim n 3))).cell
  have gk4 : g ≠ w.heap.size + 1 := by have := unhide k4; omega
  exact bodyPost_ret (v := .tuple #[u n, .slice (some ⟨g, 0, none⟩) 1 cap]) (by simp [results, Try.results10, go_sem, c]) rfl ⟨g, cap, cur, rfl, new_set4 N (g := w.heap.size + 1) (by omega) _ _ _ _, OB.far4 gk4 _ _ _ _, hcap, fun i u h => hcur i u (by simpa using h)⟩

theorem ring1 (k a b : Int) (s : ByteArray) (k1 a1 b1 : Int) (s1 : ByteArray) (gs : Nat) (tt : TypeId) (w : World) (Bs : Blk w gs tt #[.int .i64 k1, .int .i64 a1, .int .i64 b1, .string s1]) :
    Calls Try.prog 10 #[.agg #[.int .i64 k, .int .i64 a, .int .i64 b, .string s], .slice (some ⟨gs, 0, none⟩) 1 1] w (RingPost (mo (num k a b)) [num k1 a1 b1 % mo (num k a b)] w) := by
  by_cases h : num k a b = 0
  · exact ring1z k a b s k1 a1 b1 s1 gs tt h w Bs
  · exact ring1p k a b s k1 a1 b1 s1 gs tt h w Bs
set_option maxHeartbeats 4000000 in
theorem ring2z (k a b : Int) (s : ByteArray) (k1 a1 b1 : Int) (s1 : ByteArray) (k2 a2 b2 : Int) (s2 : ByteArray) (gs : Nat) (tt : TypeId) (h0 : num k a b = 0) (w : World) (Bs : Blk w gs tt #[.int .i64 k1, .int .i64 a1, .int .i64 b1, .string s1, .int .i64 k2, .int .i64 a2, .int .i64 b2, .string s2]) :
  Calls Try.prog 10 #[.agg #[.int .i64 k, .int .i64 a, .int .i64 b, .string s], .slice (some ⟨gs, 0, none⟩) 2 2] w (RingPost (mo (num k a b)) [num k1 a1 b1 % mo (num k a b), num k2 a2 b2 % mo (num k a b)] w) := by
  have hx := num_lt k a b
  have hx1 := num_lt k1 a1 b1
  have hx2 := num_lt k2 a2 b2
  obtain ⟨x, ex⟩ : ∃ x, num k a b = x := ⟨_, rfl⟩
  rw [ex] at h0 hx ⊢
  obtain ⟨x1, ex1⟩ : ∃ x, num k1 a1 b1 = x := ⟨_, rfl⟩; rw [ex1] at hx1 ⊢
  obtain ⟨x2, ex2⟩ : ∃ x, num k2 a2 b2 = x := ⟨_, rfl⟩; rw [ex2] at hx2 ⊢
  obtain ⟨n, en⟩ : ∃ n, mo x = n := ⟨_, rfl⟩
  have hn0 := mo_pos x; have hnM := mo_lt x hx
  rw [en] at hn0 hnM ⊢
  have n1 : n = 1 := by rw [← en, h0]; rfl
  have hn0 := hide hn0; have hnM := hide hnM; have en := hide en; have ex := hide ex; have hx := hide hx
  obtain ⟨r1, er1⟩ : ∃ r, x1 % n = r := ⟨_, rfl⟩; rw [er1]; have er1 := hide er1; have hx1 := hide hx1; have ex1 := hide ex1
  obtain ⟨r2, er2⟩ : ∃ r, x2 % n = r := ⟨_, rfl⟩; rw [er2]; have er2 := hide er2; have hx2 := hide hx2; have ex2 := hide ex2
  go_enter Try.func10, Try.ntmps10
  have ls := Bs.lt
  go_wp2_with fail
  generalize hW : World.alloc _ _ = W
  obtain ⟨N, B2, B4⟩ := boxes2 hW
  have Bs := Bs.up N
  clear hW ls
  have l42 : w.heap.size ≠ w.heap.size + 1 := by omega
  have cs := Bs.cell; have ls := Bs.lt
  refine (number_is k a b s x (unhide ex) _).mono ?_
  rintro e w1 ⟨rfl, hb⟩
  have U : New W w1 := new_trans (by (repeat' (first | with_reducible exact new_refl _ | with_reducible assumption | with_reducible refine new_drewN ?_ _ | with_reducible refine new_drew ?_ | with_reducible refine new_alloc ?_ _ | with_reducible refine new_set ?_ ?_ _ | with_reducible refine new_freeze ?_ ?_ _ | with_reducible refine new_trans ?_ (by assumption) | (simp; done) | (simp; omega)))) hb
  have N : New w w1 := new_trans (by (repeat' (first | with_reducible exact new_refl _ | with_reducible assumption | with_reducible refine new_drewN ?_ _ | with_reducible refine new_drew ?_ | with_reducible refine new_alloc ?_ _ | with_reducible refine new_set ?_ ?_ _ | with_reducible refine new_freeze ?_ ?_ _ | with_reducible refine new_trans ?_ (by assumption) | (simp; done) | (simp; omega)))) hb
  have Bs := Bs.up U
  have B2 := B2.up U
  have B4 := B4.up U
  try clear cs
  try clear ls
  try clear fs
  have cs := Bs.cell; have ls := Bs.lt
  try clear c2
  try clear l2
  try clear f2
  have c2 := B2.cell; have l2 := B2.lt
  try clear c4
  try clear l4
  try clear f4
  have c4 := B4.cell; have l4 := B4.lt
  clear hb U
  have n46z := Nat.ne_of_lt l4
  subst h0
  go_wp2_with fail
  generalize hY : World.alloc w1 _ = Y
  obtain ⟨M, B6⟩ := boxes1 hY
  have B6 : Blk Y w1.heap.size 26 (uc n) := by rw [n1, uc_one]; exact B6
  clear n1
  have Bs := Bs.up M; have B4 := B4.up M; have N := new_trans N M
  have j4 := hide l4; have js := hide ls; have k6 := hide (Nat.lt_of_lt_of_le (Nat.lt_succ_self _) (by rw [← hY, World.size_alloc]; exact Nat.le_refl _) : w1.heap.size < Y.heap.size)
  have kY := hide (Nat.le_trans N.size (Nat.le_refl _) : w.heap.size ≤ Y.heap.size)
  have k4 := hide (Nat.lt_trans (unhide j4) (unhide k6)); have ks := hide (Nat.lt_trans (unhide js) (unhide k6)); have n46 := hide (Nat.ne_of_lt (unhide j4)); clear j4 js
  clear hY M l2 l4 ls c2 c4 cs B2 n46z
  generalize hg6 : w1.heap.size = g6 at *
  clear hg6
  have hown := World.ownsRow_nil Y Y.heap.size 26 4
  have M := new_refl Y
  have c4 := B4.cell; have c6 := B6.cell; have cs := Bs.cell; have l4 := B4.lt; have l6 := B6.lt; have ls := Bs.lt
  refine wp_loop_rounds 3 ?_
  rw [rounds_succ]
  go_wp2_with fail
  generalize hZ : World.alloc Y _ = Z1
  obtain ⟨NZ, B9⟩ := boxes1 hZ
  have Bs := Bs.up NZ; have B4 := B4.up NZ; have B6 := B6.up NZ; have N := new_trans N NZ; have M := new_trans M NZ; have hown := own_new hown NZ
  clear hZ NZ c4 c6 cs l4 l6 ls
  apply region_okA
  case hm => kernel_rfl
  case hall =>
    apply allok_cons
    · exact ok_val _ fun ρ w' hN hc hF h0 hp => by have h9 := h0 9 rfl; (conv at h9 => (rhs; whnf)); have c := Blk.cell (B9.up hN); simp [execOp, go_sem, hc, hF, h9, c] <;> rfl
    apply allok_cons
    · refine ok_call 23 _ _ _ _ _ rfl Try.func23 (by kernel_rfl) (by kernel_rfl) ?_ (number_is k1 a1 b1 s1 x1 (unhide ex1)); intro a h0 hp; have h26 := hp 0 _ _ rfl rfl rfl; simp [h26]
    apply allok_cons
    · exact ok_val _ fun ρ w' hN hc hF h0 hp => by have h6 := h0 6 rfl; (conv at h6 => (rhs; whnf)); have c := Blk.cell (B6.up hN); simp [execOp, go_sem, hc, hF, h6, c] <;> rfl
    apply allok_cons
    · refine ok_call 20 _ _ _ _ _ rfl Try.func20 (by kernel_rfl) (by kernel_rfl) ?_ (div_is x1 n _ r1 (unhide hx1) (unhide hnM) (unhide hn0) rfl (unhide er1)); intro a h0 hp; have h27 := hp 1 _ _ rfl rfl rfl; have h28 := hp 2 _ _ rfl rfl rfl; simp [h27, h28]
    apply allok_cons
    · exact ok_val _ fun ρ w' hN hc hF h0 hp => by have h29 := hp 3 _ _ rfl rfl rfl; simp [execOp, go_sem, hc, hF, h29] <;> rfl
    apply allok_cons
    · exact ok_val _ fun ρ w' hN hc hF h0 hp => by have h25 := hp 4 _ _ rfl rfl rfl; simp [execOp, go_sem, hc, hF, h25] <;> rfl
    apply allok_cons
    · exact ok_val _ fun ρ w' hN hc hF h0 hp => by have h25 := hp 4 _ _ rfl rfl rfl; simp [execOp, go_sem, hc, hF, h25] <;> rfl
    apply allok_cons
    · exact ok_val _ fun ρ w' hN hc hF h0 hp => by have h25 := hp 4 _ _ rfl rfl rfl; simp [execOp, go_sem, hc, hF, h25] <;> rfl
    apply allok_cons
    · exact ok_alloc _ _ rfl zero_u
    apply allok_cons
    · exact ok_alloc _ _ rfl zero_u
    apply allok_cons
    · exact ok_store _ 8 10 30 5 _ _ rfl rfl rfl rfl rfl rfl rfl rfl size_u rfl (by simp [Value.oneCell'])
    apply allok_cons
    · exact ok_store _ 9 11 31 6 _ _ rfl rfl rfl rfl rfl rfl rfl rfl size_u rfl (by simp [Value.oneCell'])
    apply allok_cons
    · exact ok_val _ fun ρ w' hN hc hF h0 hp => by have h32 := hp 7 _ _ rfl rfl rfl; simp [execOp, go_sem, hc, hF, h32] <;> rfl
    exact allok_nil
  case hops => kernel_rfl
  case hlen => rfl
  case hputs => rfl
  intro g V1 hN1 hB hD
  simp [frame, gives, Act.put]
  have kk10 := (hB 8 _ _ 10 _ rfl rfl).1
  have B10 : Blk V1 (g 8) _ _ := (hB 8 _ _ 10 _ rfl rfl).2
  have kk11 := (hB 9 _ _ 11 _ rfl rfl).1
  have B11 : Blk V1 (g 9) _ _ := (hB 9 _ _ 11 _ rfl rfl).2
  have hown := own_new hown hN1
  have M := new_trans M hN1
  have Bs := Bs.up hN1
  have B4 := B4.up hN1
  have B6 := B6.up hN1
  have N := new_trans N hN1
  have d8_9 := hD 8 9 _ _ _ _ rfl rfl (by decide)
  generalize g 8 = p10 at *
  generalize g 9 = p11 at *
  clear hB hD g hN1
  try clear cs
  try clear ls
  have cs := Bs.cell; have ls := Bs.lt
  try clear c4
  try clear l4
  have c4 := B4.cell; have l4 := B4.lt
  try clear c6
  try clear l6
  have c6 := B6.cell; have l6 := B6.lt
  try clear c10
  try clear l10
  have c10 := B10.cell; have l10 := B10.lt
  try clear c11
  try clear l11
  have c11 := B11.cell; have l11 := B11.lt
  clear B10 c10 l10
  have hown := own_new hown (new_alloc (new_refl V1) (.cells (uc r1) 26))
  go_wp2_with ((at_builtin; refine append_u rfl _ _ rfl Y.heap.size _ 0 [] rfl hown V1.heap.size _ r1 (Blk.new_ _ _ _) rfl (by omega) (Nat.le_trans M.size (by simp)) ?_; intro v1 Y1 hown1 hg))
  have OB : Hid _ := hide (⟨(Bs.al (.cells (uc r1) 26)).grown hown (unhide ks) hg, (B4.al (.cells (uc r1) 26)).grown hown (unhide k4) hg, (B6.al (.cells (uc r1) 26)).grown hown (unhide k6) hg⟩ : _ ∧ _ ∧ _)
  have N := new_grown (new_alloc N (.cells (uc r1) 26)) hown (unhide kY) hg; have M := new_grown (new_alloc M (.cells (uc r1) 26)) hown (Nat.le_refl _) hg
  clear c4 c6 cs l4 l6 ls c11 l11 B11 B9 Bs B4 B6 hg
  obtain ⟨Bs, B4, B6⟩ := unhide OB
  clear OB hown; have hown := hown1; clear hown1
  have c4 := B4.cell; have c6 := B6.cell; have cs := Bs.cell; have l4 := B4.lt; have l6 := B6.lt; have ls := Bs.lt
  rw [rounds_succ]
  go_wp2_with fail
  generalize hZ : World.alloc Y1 _ = Z2
  obtain ⟨NZ, B9⟩ := boxes1 hZ
  have Bs := Bs.up NZ; have B4 := B4.up NZ; have B6 := B6.up NZ; have N := new_trans N NZ; have M := new_trans M NZ; have hown := own_new hown NZ
  clear hZ NZ c4 c6 cs l4 l6 ls
  apply region_okA
  case hm => kernel_rfl
  case hall =>
    apply allok_cons
    · exact ok_val _ fun ρ w' hN hc hF h0 hp => by have h9 := h0 9 rfl; (conv at h9 => (rhs; whnf)); have c := Blk.cell (B9.up hN); simp [execOp, go_sem, hc, hF, h9, c] <;> rfl
    apply allok_cons
    · refine ok_call 23 _ _ _ _ _ rfl Try.func23 (by kernel_rfl) (by kernel_rfl) ?_ (number_is k2 a2 b2 s2 x2 (unhide ex2)); intro a h0 hp; have h26 := hp 0 _ _ rfl rfl rfl; simp [h26]
    apply allok_cons
    · exact ok_val _ fun ρ w' hN hc hF h0 hp => by have h6 := h0 6 rfl; (conv at h6 => (rhs; whnf)); have c := Blk.cell (B6.up hN); simp [execOp, go_sem, hc, hF, h6, c] <;> rfl
    apply allok_cons
    · refine ok_call 20 _ _ _ _ _ rfl Try.func20 (by kernel_rfl) (by kernel_rfl) ?_ (div_is x2 n _ r2 (unhide hx2) (unhide hnM) (unhide hn0) rfl (unhide er2)); intro a h0 hp; have h27 := hp 1 _ _ rfl rfl rfl; have h28 := hp 2 _ _ rfl rfl rfl; simp [h27, h28]
    apply allok_cons
    · exact ok_val _ fun ρ w' hN hc hF h0 hp => by have h29 := hp 3 _ _ rfl rfl rfl; simp [execOp, go_sem, hc, hF, h29] <;> rfl
    apply allok_cons
    · exact ok_val _ fun ρ w' hN hc hF h0 hp => by have h25 := hp 4 _ _ rfl rfl rfl; simp [execOp, go_sem, hc, hF, h25] <;> rfl
    apply allok_cons
    · exact ok_val _ fun ρ w' hN hc hF h0 hp => by have h25 := hp 4 _ _ rfl rfl rfl; simp [execOp, go_sem, hc, hF, h25] <;> rfl
    apply allok_cons
    · exact ok_val _ fun ρ w' hN hc hF h0 hp => by have h25 := hp 4 _ _ rfl rfl rfl; simp [execOp, go_sem, hc, hF, h25] <;> rfl
    apply allok_cons
    · exact ok_alloc _ _ rfl zero_u
    apply allok_cons
    · exact ok_alloc _ _ rfl zero_u
    apply allok_cons
    · exact ok_store _ 8 10 30 5 _ _ rfl rfl rfl rfl rfl rfl rfl rfl size_u rfl (by simp [Value.oneCell'])
    apply allok_cons
    · exact ok_store _ 9 11 31 6 _ _ rfl rfl rfl rfl rfl rfl rfl rfl size_u rfl (by simp [Value.oneCell'])
    apply allok_cons
    · exact ok_val _ fun ρ w' hN hc hF h0 hp => by have h32 := hp 7 _ _ rfl rfl rfl; simp [execOp, go_sem, hc, hF, h32] <;> rfl
    exact allok_nil
  case hops => kernel_rfl
  case hlen => rfl
  case hputs => rfl
  intro g V2 hN1 hB hD
  simp [frame, gives, Act.put]
  have kk10 := (hB 8 _ _ 10 _ rfl rfl).1
  have B10 : Blk V2 (g 8) _ _ := (hB 8 _ _ 10 _ rfl rfl).2
  have kk11 := (hB 9 _ _ 11 _ rfl rfl).1
  have B11 : Blk V2 (g 9) _ _ := (hB 9 _ _ 11 _ rfl rfl).2
  have hown := own_new hown hN1
  have M := new_trans M hN1
  have Bs := Bs.up hN1
  have B4 := B4.up hN1
  have B6 := B6.up hN1
  have N := new_trans N hN1
  have d8_9 := hD 8 9 _ _ _ _ rfl rfl (by decide)
  generalize g 8 = p10 at *
  generalize g 9 = p11 at *
  clear hB hD g hN1
  try clear cs
  try clear ls
  have cs := Bs.cell; have ls := Bs.lt
  try clear c4
  try clear l4
  have c4 := B4.cell; have l4 := B4.lt
  try clear c6
  try clear l6
  have c6 := B6.cell; have l6 := B6.lt
  try clear c10
  try clear l10
  have c10 := B10.cell; have l10 := B10.lt
  try clear c11
  try clear l11
  have c11 := B11.cell; have l11 := B11.lt
  clear B10 c10 l10
  have hown := own_new hown (new_alloc (new_refl V2) (.cells (uc r2) 26))
  go_wp2_with ((at_builtin; refine append_u rfl _ _ rfl Y.heap.size _ 1 _ rfl hown V2.heap.size _ r2 (Blk.new_ _ _ _) rfl (by omega) (Nat.le_trans M.size (by simp)) ?_; intro v2 Y2 hown2 hg))
  have OB : Hid _ := hide (⟨(Bs.al (.cells (uc r2) 26)).grown hown (unhide ks) hg, (B4.al (.cells (uc r2) 26)).grown hown (unhide k4) hg, (B6.al (.cells (uc r2) 26)).grown hown (unhide k6) hg⟩ : _ ∧ _ ∧ _)
  have N := new_grown (new_alloc N (.cells (uc r2) 26)) hown (unhide kY) hg; have M := new_grown (new_alloc M (.cells (uc r2) 26)) hown (Nat.le_refl _) hg
  clear c4 c6 cs l4 l6 ls c11 l11 B11 B9 Bs B4 B6 hg
  obtain ⟨Bs, B4, B6⟩ := unhide OB
  clear OB hown; have hown := hown2; clear hown2
  have c4 := B4.cell; have c6 := B6.cell; have cs := Bs.cell; have l4 := B4.lt; have l6 := B6.lt; have ls := Bs.lt
  rw [rounds_succ]
  have f4 := B4.free
  go_wp2
  obtain ⟨g, cap, cur, rfl, hg, OB, hcap, hcur⟩ := own_cells hown
  have c := (B4.set4 (.int .u64 (lim n 0)) (.int .u64 (lim n 1)) (.int .u64 (lim n 2)) (.int .u64 (lim n 3))).cell
  have gk4 : g ≠ w.heap.size + 1 := by have := unhide k4; omega
  exact bodyPost_ret (v := .tuple #[u n, .slice (some ⟨g, 0, none⟩) 2 cap]) (by simp [results, Try.results10, go_sem, c]) rfl ⟨g, cap, cur, rfl, new_set4 N (g := w.heap.size + 1) (by omega) _ _ _ _, OB.far4 gk4 _ _ _ _, hcap, fun i u h => hcur i u (by simpa using h)⟩

set_option maxHeartbeats 4000000 in
theorem ring2p (k a b : Int) (s : ByteArray) (k1 a1 b1 : Int) (s1 : ByteArray) (k2 a2 b2 : Int) (s2 : ByteArray) (gs : Nat) (tt : TypeId) (h0 : num k a b ≠ 0) (w : World) (Bs : Blk w gs tt #[.int .i64 k1, .int .i64 a1, .int .i64 b1, .string s1, .int .i64 k2, .int .i64 a2, .int .i64 b2, .string s2]) :
  Calls Try.prog 10 #[.agg #[.int .i64 k, .int .i64 a, .int .i64 b, .string s], .slice (some ⟨gs, 0, none⟩) 2 2] w (RingPost (mo (num k a b)) [num k1 a1 b1 % mo (num k a b), num k2 a2 b2 % mo (num k a b)] w) := by
  have hx := num_lt k a b
  have hx1 := num_lt k1 a1 b1
  have hx2 := num_lt k2 a2 b2
  obtain ⟨x, ex⟩ : ∃ x, num k a b = x := ⟨_, rfl⟩
  rw [ex] at h0 hx ⊢
  obtain ⟨x1, ex1⟩ : ∃ x, num k1 a1 b1 = x := ⟨_, rfl⟩; rw [ex1] at hx1 ⊢
  obtain ⟨x2, ex2⟩ : ∃ x, num k2 a2 b2 = x := ⟨_, rfl⟩; rw [ex2] at hx2 ⊢
  obtain ⟨n, en⟩ : ∃ n, mo x = n := ⟨_, rfl⟩
  have hn0 := mo_pos x; have hnM := mo_lt x hx
  rw [en] at hn0 hnM ⊢
  have n1 : n = x := by rw [← en]; unfold mo; rw [if_neg h0]
  subst n1
  have ez := zero_iff n hx
  rw [decide_eq_false h0] at ez
  have hn0 := hide hn0; have hnM := hide hnM; have en := hide en; have ex := hide ex; have hx := hide hx
  obtain ⟨r1, er1⟩ : ∃ r, x1 % n = r := ⟨_, rfl⟩; rw [er1]; have er1 := hide er1; have hx1 := hide hx1; have ex1 := hide ex1
  obtain ⟨r2, er2⟩ : ∃ r, x2 % n = r := ⟨_, rfl⟩; rw [er2]; have er2 := hide er2; have hx2 := hide hx2; have ex2 := hide ex2
  go_enter Try.func10, Try.ntmps10
  have ls := Bs.lt
  go_wp2_with fail
  generalize hW : World.alloc _ _ = W
  obtain ⟨N, B2, B4⟩ := boxes2 hW
  have Bs := Bs.up N
  clear hW ls
  have l42 : w.heap.size ≠ w.heap.size + 1 := by omega
  have cs := Bs.cell; have ls := Bs.lt
  refine (number_is k a b s n (unhide ex) _).mono ?_
  rintro e w1 ⟨rfl, hb⟩
  have U : New W w1 := new_trans (by (repeat' (first | with_reducible exact new_refl _ | with_reducible assumption | with_reducible refine new_drewN ?_ _ | with_reducible refine new_drew ?_ | with_reducible refine new_alloc ?_ _ | with_reducible refine new_set ?_ ?_ _ | with_reducible refine new_freeze ?_ ?_ _ | with_reducible refine new_trans ?_ (by assumption) | (simp; done) | (simp; omega)))) hb
  have N : New w w1 := new_trans (by (repeat' (first | with_reducible exact new_refl _ | with_reducible assumption | with_reducible refine new_drewN ?_ _ | with_reducible refine new_drew ?_ | with_reducible refine new_alloc ?_ _ | with_reducible refine new_set ?_ ?_ _ | with_reducible refine new_freeze ?_ ?_ _ | with_reducible refine new_trans ?_ (by assumption) | (simp; done) | (simp; omega)))) hb
  have Bs := Bs.up U
  have B2 := B2.up U
  have B4 := B4.up U
  try clear cs
  try clear ls
  try clear fs
  have cs := Bs.cell; have ls := Bs.lt
  try clear c2
  try clear l2
  try clear f2
  have c2 := B2.cell; have l2 := B2.lt
  try clear c4
  try clear l4
  try clear f4
  have c4 := B4.cell; have l4 := B4.lt
  clear hb U
  go_wp2_with fail
  generalize hY : World.alloc w1 _ = Y
  obtain ⟨M, B6⟩ := boxes1 hY
  have Bs := Bs.up M; have B4 := B4.up M; have N := new_trans N M
  have j4 := hide l4; have js := hide ls; have k6 := hide (Nat.lt_of_lt_of_le (Nat.lt_succ_self _) (by rw [← hY, World.size_alloc]; exact Nat.le_refl _) : w1.heap.size < Y.heap.size)
  have kY := hide (Nat.le_trans N.size (Nat.le_refl _) : w.heap.size ≤ Y.heap.size)
  have k4 := hide (Nat.lt_trans (unhide j4) (unhide k6)); have ks := hide (Nat.lt_trans (unhide js) (unhide k6)); have n46 := hide (Nat.ne_of_lt (unhide j4)); clear j4 js
  clear hY M l2 l4 ls c2 c4 cs B2 
  generalize hg6 : w1.heap.size = g6 at *
  clear hg6
  have hown := World.ownsRow_nil Y Y.heap.size 26 4
  have M := new_refl Y
  have c4 := B4.cell; have c6 := B6.cell; have cs := Bs.cell; have l4 := B4.lt; have l6 := B6.lt; have ls := Bs.lt
  refine wp_loop_rounds 3 ?_
  rw [rounds_succ]
  go_wp2_with fail
  generalize hZ : World.alloc Y _ = Z1
  obtain ⟨NZ, B9⟩ := boxes1 hZ
  have Bs := Bs.up NZ; have B4 := B4.up NZ; have B6 := B6.up NZ; have N := new_trans N NZ; have M := new_trans M NZ; have hown := own_new hown NZ
  clear hZ NZ c4 c6 cs l4 l6 ls
  apply region_okA
  case hm => kernel_rfl
  case hall =>
    apply allok_cons
    · exact ok_val _ fun ρ w' hN hc hF h0 hp => by have h9 := h0 9 rfl; (conv at h9 => (rhs; whnf)); have c := Blk.cell (B9.up hN); simp [execOp, go_sem, hc, hF, h9, c] <;> rfl
    apply allok_cons
    · refine ok_call 23 _ _ _ _ _ rfl Try.func23 (by kernel_rfl) (by kernel_rfl) ?_ (number_is k1 a1 b1 s1 x1 (unhide ex1)); intro a h0 hp; have h26 := hp 0 _ _ rfl rfl rfl; simp [h26]
    apply allok_cons
    · exact ok_val _ fun ρ w' hN hc hF h0 hp => by have h6 := h0 6 rfl; (conv at h6 => (rhs; whnf)); have c := Blk.cell (B6.up hN); simp [execOp, go_sem, hc, hF, h6, c] <;> rfl
    apply allok_cons
    · refine ok_call 20 _ _ _ _ _ rfl Try.func20 (by kernel_rfl) (by kernel_rfl) ?_ (div_is x1 n _ r1 (unhide hx1) (unhide hnM) (unhide hn0) rfl (unhide er1)); intro a h0 hp; have h27 := hp 1 _ _ rfl rfl rfl; have h28 := hp 2 _ _ rfl rfl rfl; simp [h27, h28]
    apply allok_cons
    · exact ok_val _ fun ρ w' hN hc hF h0 hp => by have h29 := hp 3 _ _ rfl rfl rfl; simp [execOp, go_sem, hc, hF, h29] <;> rfl
    apply allok_cons
    · exact ok_val _ fun ρ w' hN hc hF h0 hp => by have h25 := hp 4 _ _ rfl rfl rfl; simp [execOp, go_sem, hc, hF, h25] <;> rfl
    apply allok_cons
    · exact ok_val _ fun ρ w' hN hc hF h0 hp => by have h25 := hp 4 _ _ rfl rfl rfl; simp [execOp, go_sem, hc, hF, h25] <;> rfl
    apply allok_cons
    · exact ok_val _ fun ρ w' hN hc hF h0 hp => by have h25 := hp 4 _ _ rfl rfl rfl; simp [execOp, go_sem, hc, hF, h25] <;> rfl
    apply allok_cons
    · exact ok_alloc _ _ rfl zero_u
    apply allok_cons
    · exact ok_alloc _ _ rfl zero_u
    apply allok_cons
    · exact ok_store _ 8 10 30 5 _ _ rfl rfl rfl rfl rfl rfl rfl rfl size_u rfl (by simp [Value.oneCell'])
    apply allok_cons
    · exact ok_store _ 9 11 31 6 _ _ rfl rfl rfl rfl rfl rfl rfl rfl size_u rfl (by simp [Value.oneCell'])
    apply allok_cons
    · exact ok_val _ fun ρ w' hN hc hF h0 hp => by have h32 := hp 7 _ _ rfl rfl rfl; simp [execOp, go_sem, hc, hF, h32] <;> rfl
    exact allok_nil
  case hops => kernel_rfl
  case hlen => rfl
  case hputs => rfl
  intro g V1 hN1 hB hD
  simp [frame, gives, Act.put]
  have kk10 := (hB 8 _ _ 10 _ rfl rfl).1
  have B10 : Blk V1 (g 8) _ _ := (hB 8 _ _ 10 _ rfl rfl).2
  have kk11 := (hB 9 _ _ 11 _ rfl rfl).1
  have B11 : Blk V1 (g 9) _ _ := (hB 9 _ _ 11 _ rfl rfl).2
  have hown := own_new hown hN1
  have M := new_trans M hN1
  have Bs := Bs.up hN1
  have B4 := B4.up hN1
  have B6 := B6.up hN1
  have N := new_trans N hN1
  have d8_9 := hD 8 9 _ _ _ _ rfl rfl (by decide)
  generalize g 8 = p10 at *
  generalize g 9 = p11 at *
  clear hB hD g hN1
  try clear cs
  try clear ls
  have cs := Bs.cell; have ls := Bs.lt
  try clear c4
  try clear l4
  have c4 := B4.cell; have l4 := B4.lt
  try clear c6
  try clear l6
  have c6 := B6.cell; have l6 := B6.lt
  try clear c10
  try clear l10
  have c10 := B10.cell; have l10 := B10.lt
  try clear c11
  try clear l11
  have c11 := B11.cell; have l11 := B11.lt
  clear B10 c10 l10
  have hown := own_new hown (new_alloc (new_refl V1) (.cells (uc r1) 26))
  go_wp2_with ((at_builtin; refine append_u rfl _ _ rfl Y.heap.size _ 0 [] rfl hown V1.heap.size _ r1 (Blk.new_ _ _ _) rfl (by omega) (Nat.le_trans M.size (by simp)) ?_; intro v1 Y1 hown1 hg))
  have OB : Hid _ := hide (⟨(Bs.al (.cells (uc r1) 26)).grown hown (unhide ks) hg, (B4.al (.cells (uc r1) 26)).grown hown (unhide k4) hg, (B6.al (.cells (uc r1) 26)).grown hown (unhide k6) hg⟩ : _ ∧ _ ∧ _)
  have N := new_grown (new_alloc N (.cells (uc r1) 26)) hown (unhide kY) hg; have M := new_grown (new_alloc M (.cells (uc r1) 26)) hown (Nat.le_refl _) hg
  clear c4 c6 cs l4 l6 ls c11 l11 B11 B9 Bs B4 B6 hg
  obtain ⟨Bs, B4, B6⟩ := unhide OB
  clear OB hown; have hown := hown1; clear hown1
  have c4 := B4.cell; have c6 := B6.cell; have cs := Bs.cell; have l4 := B4.lt; have l6 := B6.lt; have ls := Bs.lt
  rw [rounds_succ]
  go_wp2_with fail
  generalize hZ : World.alloc Y1 _ = Z2
  obtain ⟨NZ, B9⟩ := boxes1 hZ
  have Bs := Bs.up NZ; have B4 := B4.up NZ; have B6 := B6.up NZ; have N := new_trans N NZ; have M := new_trans M NZ; have hown := own_new hown NZ
  clear hZ NZ c4 c6 cs l4 l6 ls
  apply region_okA
  case hm => kernel_rfl
  case hall =>
    apply allok_cons
    · exact ok_val _ fun ρ w' hN hc hF h0 hp => by have h9 := h0 9 rfl; (conv at h9 => (rhs; whnf)); have c := Blk.cell (B9.up hN); simp [execOp, go_sem, hc, hF, h9, c] <;> rfl
    apply allok_cons
    · refine ok_call 23 _ _ _ _ _ rfl Try.func23 (by kernel_rfl) (by kernel_rfl) ?_ (number_is k2 a2 b2 s2 x2 (unhide ex2)); intro a h0 hp; have h26 := hp 0 _ _ rfl rfl rfl; simp [h26]
    apply allok_cons
    · exact ok_val _ fun ρ w' hN hc hF h0 hp => by have h6 := h0 6 rfl; (conv at h6 => (rhs; whnf)); have c := Blk.cell (B6.up hN); simp [execOp, go_sem, hc, hF, h6, c] <;> rfl
    apply allok_cons
    · refine ok_call 20 _ _ _ _ _ rfl Try.func20 (by kernel_rfl) (by kernel_rfl) ?_ (div_is x2 n _ r2 (unhide hx2) (unhide hnM) (unhide hn0) rfl (unhide er2)); intro a h0 hp; have h27 := hp 1 _ _ rfl rfl rfl; have h28 := hp 2 _ _ rfl rfl rfl; simp [h27, h28]
    apply allok_cons
    · exact ok_val _ fun ρ w' hN hc hF h0 hp => by have h29 := hp 3 _ _ rfl rfl rfl; simp [execOp, go_sem, hc, hF, h29] <;> rfl
    apply allok_cons
    · exact ok_val _ fun ρ w' hN hc hF h0 hp => by have h25 := hp 4 _ _ rfl rfl rfl; simp [execOp, go_sem, hc, hF, h25] <;> rfl
    apply allok_cons
    · exact ok_val _ fun ρ w' hN hc hF h0 hp => by have h25 := hp 4 _ _ rfl rfl rfl; simp [execOp, go_sem, hc, hF, h25] <;> rfl
    apply allok_cons
    · exact ok_val _ fun ρ w' hN hc hF h0 hp => by have h25 := hp 4 _ _ rfl rfl rfl; simp [execOp, go_sem, hc, hF, h25] <;> rfl
    apply allok_cons
    · exact ok_alloc _ _ rfl zero_u
    apply allok_cons
    · exact ok_alloc _ _ rfl zero_u
    apply allok_cons
    · exact ok_store _ 8 10 30 5 _ _ rfl rfl rfl rfl rfl rfl rfl rfl size_u rfl (by simp [Value.oneCell'])
    apply allok_cons
    · exact ok_store _ 9 11 31 6 _ _ rfl rfl rfl rfl rfl rfl rfl rfl size_u rfl (by simp [Value.oneCell'])
    apply allok_cons
    · exact ok_val _ fun ρ w' hN hc hF h0 hp => by have h32 := hp 7 _ _ rfl rfl rfl; simp [execOp, go_sem, hc, hF, h32] <;> rfl
    exact allok_nil
  case hops => kernel_rfl
  case hlen => rfl
  case hputs => rfl
  intro g V2 hN1 hB hD
  simp [frame, gives, Act.put]
  have kk10 := (hB 8 _ _ 10 _ rfl rfl).1
  have B10 : Blk V2 (g 8) _ _ := (hB 8 _ _ 10 _ rfl rfl).2
  have kk11 := (hB 9 _ _ 11 _ rfl rfl).1
  have B11 : Blk V2 (g 9) _ _ := (hB 9 _ _ 11 _ rfl rfl).2
  have hown := own_new hown hN1
  have M := new_trans M hN1
  have Bs := Bs.up hN1
  have B4 := B4.up hN1
  have B6 := B6.up hN1
  have N := new_trans N hN1
  have d8_9 := hD 8 9 _ _ _ _ rfl rfl (by decide)
  generalize g 8 = p10 at *
  generalize g 9 = p11 at *
  clear hB hD g hN1
  try clear cs
  try clear ls
  have cs := Bs.cell; have ls := Bs.lt
  try clear c4
  try clear l4
  have c4 := B4.cell; have l4 := B4.lt
  try clear c6
  try clear l6
  have c6 := B6.cell; have l6 := B6.lt
  try clear c10
  try clear l10
  have c10 := B10.cell; have l10 := B10.lt
  try clear c11
  try clear l11
  have c11 := B11.cell; have l11 := B11.lt
  clear B10 c10 l10
  have hown := own_new hown (new_alloc (new_refl V2) (.cells (uc r2) 26))
  go_wp2_with ((at_builtin; refine append_u rfl _ _ rfl Y.heap.size _ 1 _ rfl hown V2.heap.size _ r2 (Blk.new_ _ _ _) rfl (by omega) (Nat.le_trans M.size (by simp)) ?_; intro v2 Y2 hown2 hg))
  have OB : Hid _ := hide (⟨(Bs.al (.cells (uc r2) 26)).grown hown (unhide ks) hg, (B4.al (.cells (uc r2) 26)).grown hown (unhide k4) hg, (B6.al (.cells (uc r2) 26)).grown hown (unhide k6) hg⟩ : _ ∧ _ ∧ _)
  have N := new_grown (new_alloc N (.cells (uc r2) 26)) hown (unhide kY) hg; have M := new_grown (new_alloc M (.cells (uc r2) 26)) hown (Nat.le_refl _) hg
  clear c4 c6 cs l4 l6 ls c11 l11 B11 B9 Bs B4 B6 hg
  obtain ⟨Bs, B4, B6⟩ := unhide OB
  clear OB hown; have hown := hown2; clear hown2
  have c4 := B4.cell; have c6 := B6.cell; have cs := Bs.cell; have l4 := B4.lt; have l6 := B6.lt; have ls := Bs.lt
  rw [rounds_succ]
  have f4 := B4.free
  go_wp2
  obtain ⟨g, cap, cur, rfl, hg, OB, hcap, hcur⟩ := own_cells hown
  have c := (B4.set4 (.int .u64 (lim n 0)) (.int .u64 (lim n 1)) (.int .u64 (lim n 2)) (.int .u64 (lim n 3))).cell
  have gk4 : g ≠ w.heap.size + 1 := by have := unhide k4; omega
  exact bodyPost_ret (v := .tuple #[u n, .slice (some ⟨g, 0, none⟩) 2 cap]) (by simp [results, Try.results10, go_sem, c]) rfl ⟨g, cap, cur, rfl, new_set4 N (g := w.heap.size + 1) (by omega) _ _ _ _, OB.far4 gk4 _ _ _ _, hcap, fun i u h => hcur i u (by simpa using h)⟩

theorem ring2 (k a b : Int) (s : ByteArray) (k1 a1 b1 : Int) (s1 : ByteArray) (k2 a2 b2 : Int) (s2 : ByteArray) (gs : Nat) (tt : TypeId) (w : World) (Bs : Blk w gs tt #[.int .i64 k1, .int .i64 a1, .int .i64 b1, .string s1, .int .i64 k2, .int .i64 a2, .int .i64 b2, .string s2]) :
    Calls Try.prog 10 #[.agg #[.int .i64 k, .int .i64 a, .int .i64 b, .string s], .slice (some ⟨gs, 0, none⟩) 2 2] w (RingPost (mo (num k a b)) [num k1 a1 b1 % mo (num k a b), num k2 a2 b2 % mo (num k a b)] w) := by
  by_cases h : num k a b = 0
  · exact ring2z k a b s k1 a1 b1 s1 k2 a2 b2 s2 gs tt h w Bs
  · exact ring2p k a b s k1 a1 b1 s1 k2 a2 b2 s2 gs tt h w Bs
set_option maxHeartbeats 4000000 in
theorem ring3z (k a b : Int) (s : ByteArray) (k1 a1 b1 : Int) (s1 : ByteArray) (k2 a2 b2 : Int) (s2 : ByteArray) (k3 a3 b3 : Int) (s3 : ByteArray) (gs : Nat) (tt : TypeId) (h0 : num k a b = 0) (w : World) (Bs : Blk w gs tt #[.int .i64 k1, .int .i64 a1, .int .i64 b1, .string s1, .int .i64 k2, .int .i64 a2, .int .i64 b2, .string s2, .int .i64 k3, .int .i64 a3, .int .i64 b3, .string s3]) :
  Calls Try.prog 10 #[.agg #[.int .i64 k, .int .i64 a, .int .i64 b, .string s], .slice (some ⟨gs, 0, none⟩) 3 3] w (RingPost (mo (num k a b)) [num k1 a1 b1 % mo (num k a b), num k2 a2 b2 % mo (num k a b), num k3 a3 b3 % mo (num k a b)] w) := by
  have hx := num_lt k a b
  have hx1 := num_lt k1 a1 b1
  have hx2 := num_lt k2 a2 b2
  have hx3 := num_lt k3 a3 b3
  obtain ⟨x, ex⟩ : ∃ x, num k a b = x := ⟨_, rfl⟩
  rw [ex] at h0 hx ⊢
  obtain ⟨x1, ex1⟩ : ∃ x, num k1 a1 b1 = x := ⟨_, rfl⟩; rw [ex1] at hx1 ⊢
  obtain ⟨x2, ex2⟩ : ∃ x, num k2 a2 b2 = x := ⟨_, rfl⟩; rw [ex2] at hx2 ⊢
  obtain ⟨x3, ex3⟩ : ∃ x, num k3 a3 b3 = x := ⟨_, rfl⟩; rw [ex3] at hx3 ⊢
  obtain ⟨n, en⟩ : ∃ n, mo x = n := ⟨_, rfl⟩
  have hn0 := mo_pos x; have hnM := mo_lt x hx
  rw [en] at hn0 hnM ⊢
  have n1 : n = 1 := by rw [← en, h0]; rfl
  have hn0 := hide hn0; have hnM := hide hnM; have en := hide en; have ex := hide ex; have hx := hide hx
  obtain ⟨r1, er1⟩ : ∃ r, x1 % n = r := ⟨_, rfl⟩; rw [er1]; have er1 := hide er1; have hx1 := hide hx1; have ex1 := hide ex1
  obtain ⟨r2, er2⟩ : ∃ r, x2 % n = r := ⟨_, rfl⟩; rw [er2]; have er2 := hide er2; have hx2 := hide hx2; have ex2 := hide ex2
  obtain ⟨r3, er3⟩ : ∃ r, x3 % n = r := ⟨_, rfl⟩; rw [er3]; have er3 := hide er3; have hx3 := hide hx3; have ex3 := hide ex3
  go_enter Try.func10, Try.ntmps10
  have ls := Bs.lt
  go_wp2_with fail
  generalize hW : World.alloc _ _ = W
  obtain ⟨N, B2, B4⟩ := boxes2 hW
  have Bs := Bs.up N
  clear hW ls
  have l42 : w.heap.size ≠ w.heap.size + 1 := by omega
  have cs := Bs.cell; have ls := Bs.lt
  refine (number_is k a b s x (unhide ex) _).mono ?_
  rintro e w1 ⟨rfl, hb⟩
  have U : New W w1 := new_trans (by (repeat' (first | with_reducible exact new_refl _ | with_reducible assumption | with_reducible refine new_drewN ?_ _ | with_reducible refine new_drew ?_ | with_reducible refine new_alloc ?_ _ | with_reducible refine new_set ?_ ?_ _ | with_reducible refine new_freeze ?_ ?_ _ | with_reducible refine new_trans ?_ (by assumption) | (simp; done) | (simp; omega)))) hb
  have N : New w w1 := new_trans (by (repeat' (first | with_reducible exact new_refl _ | with_reducible assumption | with_reducible refine new_drewN ?_ _ | with_reducible refine new_drew ?_ | with_reducible refine new_alloc ?_ _ | with_reducible refine new_set ?_ ?_ _ | with_reducible refine new_freeze ?_ ?_ _ | with_reducible refine new_trans ?_ (by assumption) | (simp; done) | (simp; omega)))) hb
  have Bs := Bs.up U
  have B2 := B2.up U
  have B4 := B4.up U
  try clear cs
  try clear ls
  try clear fs
  have cs := Bs.cell; have ls := Bs.lt
  try clear c2
  try clear l2
  try clear f2
  have c2 := B2.cell; have l2 := B2.lt
  try clear c4
  try clear l4
  try clear f4
  have c4 := B4.cell; have l4 := B4.lt
  clear hb U
  have n46z := Nat.ne_of_lt l4
  subst h0
  go_wp2_with fail
  generalize hY : World.alloc w1 _ = Y
  obtain ⟨M, B6⟩ := boxes1 hY
  have B6 : Blk Y w1.heap.size 26 (uc n) := by rw [n1, uc_one]; exact B6
  clear n1
  have Bs := Bs.up M; have B4 := B4.up M; have N := new_trans N M
  have j4 := hide l4; have js := hide ls; have k6 := hide (Nat.lt_of_lt_of_le (Nat.lt_succ_self _) (by rw [← hY, World.size_alloc]; exact Nat.le_refl _) : w1.heap.size < Y.heap.size)
  have kY := hide (Nat.le_trans N.size (Nat.le_refl _) : w.heap.size ≤ Y.heap.size)
  have k4 := hide (Nat.lt_trans (unhide j4) (unhide k6)); have ks := hide (Nat.lt_trans (unhide js) (unhide k6)); have n46 := hide (Nat.ne_of_lt (unhide j4)); clear j4 js
  clear hY M l2 l4 ls c2 c4 cs B2 n46z
  generalize hg6 : w1.heap.size = g6 at *
  clear hg6
  have hown := World.ownsRow_nil Y Y.heap.size 26 4
  have M := new_refl Y
  have c4 := B4.cell; have c6 := B6.cell; have cs := Bs.cell; have l4 := B4.lt; have l6 := B6.lt; have ls := Bs.lt
  refine wp_loop_rounds 4 ?_
  rw [rounds_succ]
  go_wp2_with fail
  generalize hZ : World.alloc Y _ = Z1
  obtain ⟨NZ, B9⟩ := boxes1 hZ
  have Bs := Bs.up NZ; have B4 := B4.up NZ; have B6 := B6.up NZ; have N := new_trans N NZ; have M := new_trans M NZ; have hown := own_new hown NZ
  clear hZ NZ c4 c6 cs l4 l6 ls
  apply region_okA
  case hm => kernel_rfl
  case hall =>
    apply allok_cons
    · exact ok_val _ fun ρ w' hN hc hF h0 hp => by have h9 := h0 9 rfl; (conv at h9 => (rhs; whnf)); have c := Blk.cell (B9.up hN); simp [execOp, go_sem, hc, hF, h9, c] <;> rfl
    apply allok_cons
    · refine ok_call 23 _ _ _ _ _ rfl Try.func23 (by kernel_rfl) (by kernel_rfl) ?_ (number_is k1 a1 b1 s1 x1 (unhide ex1)); intro a h0 hp; have h26 := hp 0 _ _ rfl rfl rfl; simp [h26]
    apply allok_cons
    · exact ok_val _ fun ρ w' hN hc hF h0 hp => by have h6 := h0 6 rfl; (conv at h6 => (rhs; whnf)); have c := Blk.cell (B6.up hN); simp [execOp, go_sem, hc, hF, h6, c] <;> rfl
    apply allok_cons
    · refine ok_call 20 _ _ _ _ _ rfl Try.func20 (by kernel_rfl) (by kernel_rfl) ?_ (div_is x1 n _ r1 (unhide hx1) (unhide hnM) (unhide hn0) rfl (unhide er1)); intro a h0 hp; have h27 := hp 1 _ _ rfl rfl rfl; have h28 := hp 2 _ _ rfl rfl rfl; simp [h27, h28]
    apply allok_cons
    · exact ok_val _ fun ρ w' hN hc hF h0 hp => by have h29 := hp 3 _ _ rfl rfl rfl; simp [execOp, go_sem, hc, hF, h29] <;> rfl
    apply allok_cons
    · exact ok_val _ fun ρ w' hN hc hF h0 hp => by have h25 := hp 4 _ _ rfl rfl rfl; simp [execOp, go_sem, hc, hF, h25] <;> rfl
    apply allok_cons
    · exact ok_val _ fun ρ w' hN hc hF h0 hp => by have h25 := hp 4 _ _ rfl rfl rfl; simp [execOp, go_sem, hc, hF, h25] <;> rfl
    apply allok_cons
    · exact ok_val _ fun ρ w' hN hc hF h0 hp => by have h25 := hp 4 _ _ rfl rfl rfl; simp [execOp, go_sem, hc, hF, h25] <;> rfl
    apply allok_cons
    · exact ok_alloc _ _ rfl zero_u
    apply allok_cons
    · exact ok_alloc _ _ rfl zero_u
    apply allok_cons
    · exact ok_store _ 8 10 30 5 _ _ rfl rfl rfl rfl rfl rfl rfl rfl size_u rfl (by simp [Value.oneCell'])
    apply allok_cons
    · exact ok_store _ 9 11 31 6 _ _ rfl rfl rfl rfl rfl rfl rfl rfl size_u rfl (by simp [Value.oneCell'])
    apply allok_cons
    · exact ok_val _ fun ρ w' hN hc hF h0 hp => by have h32 := hp 7 _ _ rfl rfl rfl; simp [execOp, go_sem, hc, hF, h32] <;> rfl
    exact allok_nil
  case hops => kernel_rfl
  case hlen => rfl
  case hputs => rfl
  intro g V1 hN1 hB hD
  simp [frame, gives, Act.put]
  have kk10 := (hB 8 _ _ 10 _ rfl rfl).1
  have B10 : Blk V1 (g 8) _ _ := (hB 8 _ _ 10 _ rfl rfl).2
  have kk11 := (hB 9 _ _ 11 _ rfl rfl).1
  have B11 : Blk V1 (g 9) _ _ := (hB 9 _ _ 11 _ rfl rfl).2
  have hown := own_new hown hN1
  have M := new_trans M hN1
  have Bs := Bs.up hN1
  have B4 := B4.up hN1
  have B6 := B6.up hN1
  have N := new_trans N hN1
  have d8_9 := hD 8 9 _ _ _ _ rfl rfl (by decide)
  generalize g 8 = p10 at *
  generalize g 9 = p11 at *
  clear hB hD g hN1
  try clear cs
  try clear ls
  have cs := Bs.cell; have ls := Bs.lt
  try clear c4
  try clear l4
  have c4 := B4.cell; have l4 := B4.lt
  try clear c6
  try clear l6
  have c6 := B6.cell; have l6 := B6.lt
  try clear c10
  try clear l10
  have c10 := B10.cell; have l10 := B10.lt
  try clear c11
  try clear l11
  have c11 := B11.cell; have l11 := B11.lt
  clear B10 c10 l10
  have hown := own_new hown (new_alloc (new_refl V1) (.cells (uc r1) 26))
  go_wp2_with ((at_builtin; refine append_u rfl _ _ rfl Y.heap.size _ 0 [] rfl hown V1.heap.size _ r1 (Blk.new_ _ _ _) rfl (by omega) (Nat.le_trans M.size (by simp)) ?_; intro v1 Y1 hown1 hg))
  have OB : Hid _ := hide (⟨(Bs.al (.cells (uc r1) 26)).grown hown (unhide ks) hg, (B4.al (.cells (uc r1) 26)).grown hown (unhide k4) hg, (B6.al (.cells (uc r1) 26)).grown hown (unhide k6) hg⟩ : _ ∧ _ ∧ _)
  have N := new_grown (new_alloc N (.cells (uc r1) 26)) hown (unhide kY) hg; have M := new_grown (new_alloc M (.cells (uc r1) 26)) hown (Nat.le_refl _) hg
  clear c4 c6 cs l4 l6 ls c11 l11 B11 B9 Bs B4 B6 hg
  obtain ⟨Bs, B4, B6⟩ := unhide OB
  clear OB hown; have hown := hown1; clear hown1
  have c4 := B4.cell; have c6 := B6.cell; have cs := Bs.cell; have l4 := B4.lt; have l6 := B6.lt; have ls := Bs.lt
  rw [rounds_succ]
  go_wp2_with fail
  generalize hZ : World.alloc Y1 _ = Z2
  obtain ⟨NZ, B9⟩ := boxes1 hZ
  have Bs := Bs.up NZ; have B4 := B4.up NZ; have B6 := B6.up NZ; have N := new_trans N NZ; have M := new_trans M NZ; have hown := own_new hown NZ
  clear hZ NZ c4 c6 cs l4 l6 ls
  apply region_okA
  case hm => kernel_rfl
  case hall =>
    apply allok_cons
    · exact ok_val _ fun ρ w' hN hc hF h0 hp => by have h9 := h0 9 rfl; (conv at h9 => (rhs; whnf)); have c := Blk.cell (B9.up hN); simp [execOp, go_sem, hc, hF, h9, c] <;> rfl
    apply allok_cons
    · refine ok_call 23 _ _ _ _ _ rfl Try.func23 (by kernel_rfl) (by kernel_rfl) ?_ (number_is k2 a2 b2 s2 x2 (unhide ex2)); intro a h0 hp; have h26 := hp 0 _ _ rfl rfl rfl; simp [h26]
    apply allok_cons
    · exact ok_val _ fun ρ w' hN hc hF h0 hp => by have h6 := h0 6 rfl; (conv at h6 => (rhs; whnf)); have c := Blk.cell (B6.up hN); simp [execOp, go_sem, hc, hF, h6, c] <;> rfl
    apply allok_cons
    · refine ok_call 20 _ _ _ _ _ rfl Try.func20 (by kernel_rfl) (by kernel_rfl) ?_ (div_is x2 n _ r2 (unhide hx2) (unhide hnM) (unhide hn0) rfl (unhide er2)); intro a h0 hp; have h27 := hp 1 _ _ rfl rfl rfl; have h28 := hp 2 _ _ rfl rfl rfl; simp [h27, h28]
    apply allok_cons
    · exact ok_val _ fun ρ w' hN hc hF h0 hp => by have h29 := hp 3 _ _ rfl rfl rfl; simp [execOp, go_sem, hc, hF, h29] <;> rfl
    apply allok_cons
    · exact ok_val _ fun ρ w' hN hc hF h0 hp => by have h25 := hp 4 _ _ rfl rfl rfl; simp [execOp, go_sem, hc, hF, h25] <;> rfl
    apply allok_cons
    · exact ok_val _ fun ρ w' hN hc hF h0 hp => by have h25 := hp 4 _ _ rfl rfl rfl; simp [execOp, go_sem, hc, hF, h25] <;> rfl
    apply allok_cons
    · exact ok_val _ fun ρ w' hN hc hF h0 hp => by have h25 := hp 4 _ _ rfl rfl rfl; simp [execOp, go_sem, hc, hF, h25] <;> rfl
    apply allok_cons
    · exact ok_alloc _ _ rfl zero_u
    apply allok_cons
    · exact ok_alloc _ _ rfl zero_u
    apply allok_cons
    · exact ok_store _ 8 10 30 5 _ _ rfl rfl rfl rfl rfl rfl rfl rfl size_u rfl (by simp [Value.oneCell'])
    apply allok_cons
    · exact ok_store _ 9 11 31 6 _ _ rfl rfl rfl rfl rfl rfl rfl rfl size_u rfl (by simp [Value.oneCell'])
    apply allok_cons
    · exact ok_val _ fun ρ w' hN hc hF h0 hp => by have h32 := hp 7 _ _ rfl rfl rfl; simp [execOp, go_sem, hc, hF, h32] <;> rfl
    exact allok_nil
  case hops => kernel_rfl
  case hlen => rfl
  case hputs => rfl
  intro g V2 hN1 hB hD
  simp [frame, gives, Act.put]
  have kk10 := (hB 8 _ _ 10 _ rfl rfl).1
  have B10 : Blk V2 (g 8) _ _ := (hB 8 _ _ 10 _ rfl rfl).2
  have kk11 := (hB 9 _ _ 11 _ rfl rfl).1
  have B11 : Blk V2 (g 9) _ _ := (hB 9 _ _ 11 _ rfl rfl).2
  have hown := own_new hown hN1
  have M := new_trans M hN1
  have Bs := Bs.up hN1
  have B4 := B4.up hN1
  have B6 := B6.up hN1
  have N := new_trans N hN1
  have d8_9 := hD 8 9 _ _ _ _ rfl rfl (by decide)
  generalize g 8 = p10 at *
  generalize g 9 = p11 at *
  clear hB hD g hN1
  try clear cs
  try clear ls
  have cs := Bs.cell; have ls := Bs.lt
  try clear c4
  try clear l4
  have c4 := B4.cell; have l4 := B4.lt
  try clear c6
  try clear l6
  have c6 := B6.cell; have l6 := B6.lt
  try clear c10
  try clear l10
  have c10 := B10.cell; have l10 := B10.lt
  try clear c11
  try clear l11
  have c11 := B11.cell; have l11 := B11.lt
  clear B10 c10 l10
  have hown := own_new hown (new_alloc (new_refl V2) (.cells (uc r2) 26))
  go_wp2_with ((at_builtin; refine append_u rfl _ _ rfl Y.heap.size _ 1 _ rfl hown V2.heap.size _ r2 (Blk.new_ _ _ _) rfl (by omega) (Nat.le_trans M.size (by simp)) ?_; intro v2 Y2 hown2 hg))
  have OB : Hid _ := hide (⟨(Bs.al (.cells (uc r2) 26)).grown hown (unhide ks) hg, (B4.al (.cells (uc r2) 26)).grown hown (unhide k4) hg, (B6.al (.cells (uc r2) 26)).grown hown (unhide k6) hg⟩ : _ ∧ _ ∧ _)
  have N := new_grown (new_alloc N (.cells (uc r2) 26)) hown (unhide kY) hg; have M := new_grown (new_alloc M (.cells (uc r2) 26)) hown (Nat.le_refl _) hg
  clear c4 c6 cs l4 l6 ls c11 l11 B11 B9 Bs B4 B6 hg
  obtain ⟨Bs, B4, B6⟩ := unhide OB
  clear OB hown; have hown := hown2; clear hown2
  have c4 := B4.cell; have c6 := B6.cell; have cs := Bs.cell; have l4 := B4.lt; have l6 := B6.lt; have ls := Bs.lt
  rw [rounds_succ]
  go_wp2_with fail
  generalize hZ : World.alloc Y2 _ = Z3
  obtain ⟨NZ, B9⟩ := boxes1 hZ
  have Bs := Bs.up NZ; have B4 := B4.up NZ; have B6 := B6.up NZ; have N := new_trans N NZ; have M := new_trans M NZ; have hown := own_new hown NZ
  clear hZ NZ c4 c6 cs l4 l6 ls
  apply region_okA
  case hm => kernel_rfl
  case hall =>
    apply allok_cons
    · exact ok_val _ fun ρ w' hN hc hF h0 hp => by have h9 := h0 9 rfl; (conv at h9 => (rhs; whnf)); have c := Blk.cell (B9.up hN); simp [execOp, go_sem, hc, hF, h9, c] <;> rfl
    apply allok_cons
    · refine ok_call 23 _ _ _ _ _ rfl Try.func23 (by kernel_rfl) (by kernel_rfl) ?_ (number_is k3 a3 b3 s3 x3 (unhide ex3)); intro a h0 hp; have h26 := hp 0 _ _ rfl rfl rfl; simp [h26]
    apply allok_cons
    · exact ok_val _ fun ρ w' hN hc hF h0 hp => by have h6 := h0 6 rfl; (conv at h6 => (rhs; whnf)); have c := Blk.cell (B6.up hN); simp [execOp, go_sem, hc, hF, h6, c] <;> rfl
    apply allok_cons
    · refine ok_call 20 _ _ _ _ _ rfl Try.func20 (by kernel_rfl) (by kernel_rfl) ?_ (div_is x3 n _ r3 (unhide hx3) (unhide hnM) (unhide hn0) rfl (unhide er3)); intro a h0 hp; have h27 := hp 1 _ _ rfl rfl rfl; have h28 := hp 2 _ _ rfl rfl rfl; simp [h27, h28]
    apply allok_cons
    · exact ok_val _ fun ρ w' hN hc hF h0 hp => by have h29 := hp 3 _ _ rfl rfl rfl; simp [execOp, go_sem, hc, hF, h29] <;> rfl
    apply allok_cons
    · exact ok_val _ fun ρ w' hN hc hF h0 hp => by have h25 := hp 4 _ _ rfl rfl rfl; simp [execOp, go_sem, hc, hF, h25] <;> rfl
    apply allok_cons
    · exact ok_val _ fun ρ w' hN hc hF h0 hp => by have h25 := hp 4 _ _ rfl rfl rfl; simp [execOp, go_sem, hc, hF, h25] <;> rfl
    apply allok_cons
    · exact ok_val _ fun ρ w' hN hc hF h0 hp => by have h25 := hp 4 _ _ rfl rfl rfl; simp [execOp, go_sem, hc, hF, h25] <;> rfl
    apply allok_cons
    · exact ok_alloc _ _ rfl zero_u
    apply allok_cons
    · exact ok_alloc _ _ rfl zero_u
    apply allok_cons
    · exact ok_store _ 8 10 30 5 _ _ rfl rfl rfl rfl rfl rfl rfl rfl size_u rfl (by simp [Value.oneCell'])
    apply allok_cons
    · exact ok_store _ 9 11 31 6 _ _ rfl rfl rfl rfl rfl rfl rfl rfl size_u rfl (by simp [Value.oneCell'])
    apply allok_cons
    · exact ok_val _ fun ρ w' hN hc hF h0 hp => by have h32 := hp 7 _ _ rfl rfl rfl; simp [execOp, go_sem, hc, hF, h32] <;> rfl
    exact allok_nil
  case hops => kernel_rfl
  case hlen => rfl
  case hputs => rfl
  intro g V3 hN1 hB hD
  simp [frame, gives, Act.put]
  have kk10 := (hB 8 _ _ 10 _ rfl rfl).1
  have B10 : Blk V3 (g 8) _ _ := (hB 8 _ _ 10 _ rfl rfl).2
  have kk11 := (hB 9 _ _ 11 _ rfl rfl).1
  have B11 : Blk V3 (g 9) _ _ := (hB 9 _ _ 11 _ rfl rfl).2
  have hown := own_new hown hN1
  have M := new_trans M hN1
  have Bs := Bs.up hN1
  have B4 := B4.up hN1
  have B6 := B6.up hN1
  have N := new_trans N hN1
  have d8_9 := hD 8 9 _ _ _ _ rfl rfl (by decide)
  generalize g 8 = p10 at *
  generalize g 9 = p11 at *
  clear hB hD g hN1
  try clear cs
  try clear ls
  have cs := Bs.cell; have ls := Bs.lt
  try clear c4
  try clear l4
  have c4 := B4.cell; have l4 := B4.lt
  try clear c6
  try clear l6
  have c6 := B6.cell; have l6 := B6.lt
  try clear c10
  try clear l10
  have c10 := B10.cell; have l10 := B10.lt
  try clear c11
  try clear l11
  have c11 := B11.cell; have l11 := B11.lt
  clear B10 c10 l10
  have hown := own_new hown (new_alloc (new_refl V3) (.cells (uc r3) 26))
  go_wp2_with ((at_builtin; refine append_u rfl _ _ rfl Y.heap.size _ 2 _ rfl hown V3.heap.size _ r3 (Blk.new_ _ _ _) rfl (by omega) (Nat.le_trans M.size (by simp)) ?_; intro v3 Y3 hown3 hg))
  have OB : Hid _ := hide (⟨(Bs.al (.cells (uc r3) 26)).grown hown (unhide ks) hg, (B4.al (.cells (uc r3) 26)).grown hown (unhide k4) hg, (B6.al (.cells (uc r3) 26)).grown hown (unhide k6) hg⟩ : _ ∧ _ ∧ _)
  have N := new_grown (new_alloc N (.cells (uc r3) 26)) hown (unhide kY) hg; have M := new_grown (new_alloc M (.cells (uc r3) 26)) hown (Nat.le_refl _) hg
  clear c4 c6 cs l4 l6 ls c11 l11 B11 B9 Bs B4 B6 hg
  obtain ⟨Bs, B4, B6⟩ := unhide OB
  clear OB hown; have hown := hown3; clear hown3
  have c4 := B4.cell; have c6 := B6.cell; have cs := Bs.cell; have l4 := B4.lt; have l6 := B6.lt; have ls := Bs.lt
  rw [rounds_succ]
  have f4 := B4.free
  go_wp2
  obtain ⟨g, cap, cur, rfl, hg, OB, hcap, hcur⟩ := own_cells hown
  have c := (B4.set4 (.int .u64 (lim n 0)) (.int .u64 (lim n 1)) (.int .u64 (lim n 2)) (.int .u64 (lim n 3))).cell
  have gk4 : g ≠ w.heap.size + 1 := by have := unhide k4; omega
  exact bodyPost_ret (v := .tuple #[u n, .slice (some ⟨g, 0, none⟩) 3 cap]) (by simp [results, Try.results10, go_sem, c]) rfl ⟨g, cap, cur, rfl, new_set4 N (g := w.heap.size + 1) (by omega) _ _ _ _, OB.far4 gk4 _ _ _ _, hcap, fun i u h => hcur i u (by simpa using h)⟩

set_option maxHeartbeats 4000000 in
theorem ring3p (k a b : Int) (s : ByteArray) (k1 a1 b1 : Int) (s1 : ByteArray) (k2 a2 b2 : Int) (s2 : ByteArray) (k3 a3 b3 : Int) (s3 : ByteArray) (gs : Nat) (tt : TypeId) (h0 : num k a b ≠ 0) (w : World) (Bs : Blk w gs tt #[.int .i64 k1, .int .i64 a1, .int .i64 b1, .string s1, .int .i64 k2, .int .i64 a2, .int .i64 b2, .string s2, .int .i64 k3, .int .i64 a3, .int .i64 b3, .string s3]) :
  Calls Try.prog 10 #[.agg #[.int .i64 k, .int .i64 a, .int .i64 b, .string s], .slice (some ⟨gs, 0, none⟩) 3 3] w (RingPost (mo (num k a b)) [num k1 a1 b1 % mo (num k a b), num k2 a2 b2 % mo (num k a b), num k3 a3 b3 % mo (num k a b)] w) := by
  have hx := num_lt k a b
  have hx1 := num_lt k1 a1 b1
  have hx2 := num_lt k2 a2 b2
  have hx3 := num_lt k3 a3 b3
  obtain ⟨x, ex⟩ : ∃ x, num k a b = x := ⟨_, rfl⟩
  rw [ex] at h0 hx ⊢
  obtain ⟨x1, ex1⟩ : ∃ x, num k1 a1 b1 = x := ⟨_, rfl⟩; rw [ex1] at hx1 ⊢
  obtain ⟨x2, ex2⟩ : ∃ x, num k2 a2 b2 = x := ⟨_, rfl⟩; rw [ex2] at hx2 ⊢
  obtain ⟨x3, ex3⟩ : ∃ x, num k3 a3 b3 = x := ⟨_, rfl⟩; rw [ex3] at hx3 ⊢
  obtain ⟨n, en⟩ : ∃ n, mo x = n := ⟨_, rfl⟩
  have hn0 := mo_pos x; have hnM := mo_lt x hx
  rw [en] at hn0 hnM ⊢
  have n1 : n = x := by rw [← en]; unfold mo; rw [if_neg h0]
  subst n1
  have ez := zero_iff n hx
  rw [decide_eq_false h0] at ez
  have hn0 := hide hn0; have hnM := hide hnM; have en := hide en; have ex := hide ex; have hx := hide hx
  obtain ⟨r1, er1⟩ : ∃ r, x1 % n = r := ⟨_, rfl⟩; rw [er1]; have er1 := hide er1; have hx1 := hide hx1; have ex1 := hide ex1
  obtain ⟨r2, er2⟩ : ∃ r, x2 % n = r := ⟨_, rfl⟩; rw [er2]; have er2 := hide er2; have hx2 := hide hx2; have ex2 := hide ex2
  obtain ⟨r3, er3⟩ : ∃ r, x3 % n = r := ⟨_, rfl⟩; rw [er3]; have er3 := hide er3; have hx3 := hide hx3; have ex3 := hide ex3
  go_enter Try.func10, Try.ntmps10
  have ls := Bs.lt
  go_wp2_with fail
  generalize hW : World.alloc _ _ = W
  obtain ⟨N, B2, B4⟩ := boxes2 hW
  have Bs := Bs.up N
  clear hW ls
  have l42 : w.heap.size ≠ w.heap.size + 1 := by omega
  have cs := Bs.cell; have ls := Bs.lt
  refine (number_is k a b s n (unhide ex) _).mono ?_
  rintro e w1 ⟨rfl, hb⟩
  have U : New W w1 := new_trans (by (repeat' (first | with_reducible exact new_refl _ | with_reducible assumption | with_reducible refine new_drewN ?_ _ | with_reducible refine new_drew ?_ | with_reducible refine new_alloc ?_ _ | with_reducible refine new_set ?_ ?_ _ | with_reducible refine new_freeze ?_ ?_ _ | with_reducible refine new_trans ?_ (by assumption) | (simp; done) | (simp; omega)))) hb
  have N : New w w1 := new_trans (by (repeat' (first | with_reducible exact new_refl _ | with_reducible assumption | with_reducible refine new_drewN ?_ _ | with_reducible refine new_drew ?_ | with_reducible refine new_alloc ?_ _ | with_reducible refine new_set ?_ ?_ _ | with_reducible refine new_freeze ?_ ?_ _ | with_reducible refine new_trans ?_ (by assumption) | (simp; done) | (simp; omega)))) hb
  have Bs := Bs.up U
  have B2 := B2.up U
  have B4 := B4.up U
  try clear cs
  try clear ls
  try clear fs
  have cs := Bs.cell; have ls := Bs.lt
  try clear c2
  try clear l2
  try clear f2
  have c2 := B2.cell; have l2 := B2.lt
  try clear c4
  try clear l4
  try clear f4
  have c4 := B4.cell; have l4 := B4.lt
  clear hb U
  go_wp2_with fail
  generalize hY : World.alloc w1 _ = Y
  obtain ⟨M, B6⟩ := boxes1 hY
  have Bs := Bs.up M; have B4 := B4.up M; have N := new_trans N M
  have j4 := hide l4; have js := hide ls; have k6 := hide (Nat.lt_of_lt_of_le (Nat.lt_succ_self _) (by rw [← hY, World.size_alloc]; exact Nat.le_refl _) : w1.heap.size < Y.heap.size)
  have kY := hide (Nat.le_trans N.size (Nat.le_refl _) : w.heap.size ≤ Y.heap.size)
  have k4 := hide (Nat.lt_trans (unhide j4) (unhide k6)); have ks := hide (Nat.lt_trans (unhide js) (unhide k6)); have n46 := hide (Nat.ne_of_lt (unhide j4)); clear j4 js
  clear hY M l2 l4 ls c2 c4 cs B2 
  generalize hg6 : w1.heap.size = g6 at *
  clear hg6
  have hown := World.ownsRow_nil Y Y.heap.size 26 4
  have M := new_refl Y
  have c4 := B4.cell; have c6 := B6.cell; have cs := Bs.cell; have l4 := B4.lt; have l6 := B6.lt; have ls := Bs.lt
  refine wp_loop_rounds 4 ?_
  rw [rounds_succ]
  go_wp2_with fail
  generalize hZ : World.alloc Y _ = Z1
  obtain ⟨NZ, B9⟩ := boxes1 hZ
  have Bs := Bs.up NZ; have B4 := B4.up NZ; have B6 := B6.up NZ; have N := new_trans N NZ; have M := new_trans M NZ; have hown := own_new hown NZ
  clear hZ NZ c4 c6 cs l4 l6 ls
  apply region_okA
  case hm => kernel_rfl
  case hall =>
    apply allok_cons
    · exact ok_val _ fun ρ w' hN hc hF h0 hp => by have h9 := h0 9 rfl; (conv at h9 => (rhs; whnf)); have c := Blk.cell (B9.up hN); simp [execOp, go_sem, hc, hF, h9, c] <;> rfl
    apply allok_cons
    · refine ok_call 23 _ _ _ _ _ rfl Try.func23 (by kernel_rfl) (by kernel_rfl) ?_ (number_is k1 a1 b1 s1 x1 (unhide ex1)); intro a h0 hp; have h26 := hp 0 _ _ rfl rfl rfl; simp [h26]
    apply allok_cons
    · exact ok_val _ fun ρ w' hN hc hF h0 hp => by have h6 := h0 6 rfl; (conv at h6 => (rhs; whnf)); have c := Blk.cell (B6.up hN); simp [execOp, go_sem, hc, hF, h6, c] <;> rfl
    apply allok_cons
    · refine ok_call 20 _ _ _ _ _ rfl Try.func20 (by kernel_rfl) (by kernel_rfl) ?_ (div_is x1 n _ r1 (unhide hx1) (unhide hnM) (unhide hn0) rfl (unhide er1)); intro a h0 hp; have h27 := hp 1 _ _ rfl rfl rfl; have h28 := hp 2 _ _ rfl rfl rfl; simp [h27, h28]
    apply allok_cons
    · exact ok_val _ fun ρ w' hN hc hF h0 hp => by have h29 := hp 3 _ _ rfl rfl rfl; simp [execOp, go_sem, hc, hF, h29] <;> rfl
    apply allok_cons
    · exact ok_val _ fun ρ w' hN hc hF h0 hp => by have h25 := hp 4 _ _ rfl rfl rfl; simp [execOp, go_sem, hc, hF, h25] <;> rfl
    apply allok_cons
    · exact ok_val _ fun ρ w' hN hc hF h0 hp => by have h25 := hp 4 _ _ rfl rfl rfl; simp [execOp, go_sem, hc, hF, h25] <;> rfl
    apply allok_cons
    · exact ok_val _ fun ρ w' hN hc hF h0 hp => by have h25 := hp 4 _ _ rfl rfl rfl; simp [execOp, go_sem, hc, hF, h25] <;> rfl
    apply allok_cons
    · exact ok_alloc _ _ rfl zero_u
    apply allok_cons
    · exact ok_alloc _ _ rfl zero_u
    apply allok_cons
    · exact ok_store _ 8 10 30 5 _ _ rfl rfl rfl rfl rfl rfl rfl rfl size_u rfl (by simp [Value.oneCell'])
    apply allok_cons
    · exact ok_store _ 9 11 31 6 _ _ rfl rfl rfl rfl rfl rfl rfl rfl size_u rfl (by simp [Value.oneCell'])
    apply allok_cons
    · exact ok_val _ fun ρ w' hN hc hF h0 hp => by have h32 := hp 7 _ _ rfl rfl rfl; simp [execOp, go_sem, hc, hF, h32] <;> rfl
    exact allok_nil
  case hops => kernel_rfl
  case hlen => rfl
  case hputs => rfl
  intro g V1 hN1 hB hD
  simp [frame, gives, Act.put]
  have kk10 := (hB 8 _ _ 10 _ rfl rfl).1
  have B10 : Blk V1 (g 8) _ _ := (hB 8 _ _ 10 _ rfl rfl).2
  have kk11 := (hB 9 _ _ 11 _ rfl rfl).1
  have B11 : Blk V1 (g 9) _ _ := (hB 9 _ _ 11 _ rfl rfl).2
  have hown := own_new hown hN1
  have M := new_trans M hN1
  have Bs := Bs.up hN1
  have B4 := B4.up hN1
  have B6 := B6.up hN1
  have N := new_trans N hN1
  have d8_9 := hD 8 9 _ _ _ _ rfl rfl (by decide)
  generalize g 8 = p10 at *
  generalize g 9 = p11 at *
  clear hB hD g hN1
  try clear cs
  try clear ls
  have cs := Bs.cell; have ls := Bs.lt
  try clear c4
  try clear l4
  have c4 := B4.cell; have l4 := B4.lt
  try clear c6
  try clear l6
  have c6 := B6.cell; have l6 := B6.lt
  try clear c10
  try clear l10
  have c10 := B10.cell; have l10 := B10.lt
  try clear c11
  try clear l11
  have c11 := B11.cell; have l11 := B11.lt
  clear B10 c10 l10
  have hown := own_new hown (new_alloc (new_refl V1) (.cells (uc r1) 26))
  go_wp2_with ((at_builtin; refine append_u rfl _ _ rfl Y.heap.size _ 0 [] rfl hown V1.heap.size _ r1 (Blk.new_ _ _ _) rfl (by omega) (Nat.le_trans M.size (by simp)) ?_; intro v1 Y1 hown1 hg))
  have OB : Hid _ := hide (⟨(Bs.al (.cells (uc r1) 26)).grown hown (unhide ks) hg, (B4.al (.cells (uc r1) 26)).grown hown (unhide k4) hg, (B6.al (.cells (uc r1) 26)).grown hown (unhide k6) hg⟩ : _ ∧ _ ∧ _)
  have N := new_grown (new_alloc N (.cells (uc r1) 26)) hown (unhide kY) hg; have M := new_grown (new_alloc M (.cells (uc r1) 26)) hown (Nat.le_refl _) hg
  clear c4 c6 cs l4 l6 ls c11 l11 B11 B9 Bs B4 B6 hg
  obtain ⟨Bs, B4, B6⟩ := unhide OB
  clear OB hown; have hown := hown1; clear hown1
  have c4 := B4.cell; have c6 := B6.cell; have cs := Bs.cell; have l4 := B4.lt; have l6 := B6.lt; have ls := Bs.lt
  rw [rounds_succ]
  go_wp2_with fail
  generalize hZ : World.alloc Y1 _ = Z2
  obtain ⟨NZ, B9⟩ := boxes1 hZ
  have Bs := Bs.up NZ; have B4 := B4.up NZ; have B6 := B6.up NZ; have N := new_trans N NZ; have M := new_trans M NZ; have hown := own_new hown NZ
  clear hZ NZ c4 c6 cs l4 l6 ls
  apply region_okA
  case hm => kernel_rfl
  case hall =>
    apply allok_cons
    · exact ok_val _ fun ρ w' hN hc hF h0 hp => by have h9 := h0 9 rfl; (conv at h9 => (rhs; whnf)); have c := Blk.cell (B9.up hN); simp [execOp, go_sem, hc, hF, h9, c] <;> rfl
    apply allok_cons
    · refine ok_call 23 _ _ _ _ _ rfl Try.func23 (by kernel_rfl) (by kernel_rfl) ?_ (number_is k2 a2 b2 s2 x2 (unhide ex2)); intro a h0 hp; have h26 := hp 0 _ _ rfl rfl rfl; simp [h26]
    apply allok_cons
    · exact ok_val _ fun ρ w' hN hc hF h0 hp => by have h6 := h0 6 rfl; (conv at h6 => (rhs; whnf)); have c := Blk.cell (B6.up hN); simp [execOp, go_sem, hc, hF, h6, c] <;> rfl
    apply allok_cons
    · refine ok_call 20 _ _ _ _ _ rfl Try.func20 (by kernel_rfl) (by kernel_rfl) ?_ (div_is x2 n _ r2 (unhide hx2) (unhide hnM) (unhide hn0) rfl (unhide er2)); intro a h0 hp; have h27 := hp 1 _ _ rfl rfl rfl; have h28 := hp 2 _ _ rfl rfl rfl; simp [h27, h28]
    apply allok_cons
    · exact ok_val _ fun ρ w' hN hc hF h0 hp => by have h29 := hp 3 _ _ rfl rfl rfl; simp [execOp, go_sem, hc, hF, h29] <;> rfl
    apply allok_cons
    · exact ok_val _ fun ρ w' hN hc hF h0 hp => by have h25 := hp 4 _ _ rfl rfl rfl; simp [execOp, go_sem, hc, hF, h25] <;> rfl
    apply allok_cons
    · exact ok_val _ fun ρ w' hN hc hF h0 hp => by have h25 := hp 4 _ _ rfl rfl rfl; simp [execOp, go_sem, hc, hF, h25] <;> rfl
    apply allok_cons
    · exact ok_val _ fun ρ w' hN hc hF h0 hp => by have h25 := hp 4 _ _ rfl rfl rfl; simp [execOp, go_sem, hc, hF, h25] <;> rfl
    apply allok_cons
    · exact ok_alloc _ _ rfl zero_u
    apply allok_cons
    · exact ok_alloc _ _ rfl zero_u
    apply allok_cons
    · exact ok_store _ 8 10 30 5 _ _ rfl rfl rfl rfl rfl rfl rfl rfl size_u rfl (by simp [Value.oneCell'])
    apply allok_cons
    · exact ok_store _ 9 11 31 6 _ _ rfl rfl rfl rfl rfl rfl rfl rfl size_u rfl (by simp [Value.oneCell'])
    apply allok_cons
    · exact ok_val _ fun ρ w' hN hc hF h0 hp => by have h32 := hp 7 _ _ rfl rfl rfl; simp [execOp, go_sem, hc, hF, h32] <;> rfl
    exact allok_nil
  case hops => kernel_rfl
  case hlen => rfl
  case hputs => rfl
  intro g V2 hN1 hB hD
  simp [frame, gives, Act.put]
  have kk10 := (hB 8 _ _ 10 _ rfl rfl).1
  have B10 : Blk V2 (g 8) _ _ := (hB 8 _ _ 10 _ rfl rfl).2
  have kk11 := (hB 9 _ _ 11 _ rfl rfl).1
  have B11 : Blk V2 (g 9) _ _ := (hB 9 _ _ 11 _ rfl rfl).2
  have hown := own_new hown hN1
  have M := new_trans M hN1
  have Bs := Bs.up hN1
  have B4 := B4.up hN1
  have B6 := B6.up hN1
  have N := new_trans N hN1
  have d8_9 := hD 8 9 _ _ _ _ rfl rfl (by decide)
  generalize g 8 = p10 at *
  generalize g 9 = p11 at *
  clear hB hD g hN1
  try clear cs
  try clear ls
  have cs := Bs.cell; have ls := Bs.lt
  try clear c4
  try clear l4
  have c4 := B4.cell; have l4 := B4.lt
  try clear c6
  try clear l6
  have c6 := B6.cell; have l6 := B6.lt
  try clear c10
  try clear l10
  have c10 := B10.cell; have l10 := B10.lt
  try clear c11
  try clear l11
  have c11 := B11.cell; have l11 := B11.lt
  clear B10 c10 l10
  have hown := own_new hown (new_alloc (new_refl V2) (.cells (uc r2) 26))
  go_wp2_with ((at_builtin; refine append_u rfl _ _ rfl Y.heap.size _ 1 _ rfl hown V2.heap.size _ r2 (Blk.new_ _ _ _) rfl (by omega) (Nat.le_trans M.size (by simp)) ?_; intro v2 Y2 hown2 hg))
  have OB : Hid _ := hide (⟨(Bs.al (.cells (uc r2) 26)).grown hown (unhide ks) hg, (B4.al (.cells (uc r2) 26)).grown hown (unhide k4) hg, (B6.al (.cells (uc r2) 26)).grown hown (unhide k6) hg⟩ : _ ∧ _ ∧ _)
  have N := new_grown (new_alloc N (.cells (uc r2) 26)) hown (unhide kY) hg; have M := new_grown (new_alloc M (.cells (uc r2) 26)) hown (Nat.le_refl _) hg
  clear c4 c6 cs l4 l6 ls c11 l11 B11 B9 Bs B4 B6 hg
  obtain ⟨Bs, B4, B6⟩ := unhide OB
  clear OB hown; have hown := hown2; clear hown2
  have c4 := B4.cell; have c6 := B6.cell; have cs := Bs.cell; have l4 := B4.lt; have l6 := B6.lt; have ls := Bs.lt
  rw [rounds_succ]
  go_wp2_with fail
  generalize hZ : World.alloc Y2 _ = Z3
  obtain ⟨NZ, B9⟩ := boxes1 hZ
  have Bs := Bs.up NZ; have B4 := B4.up NZ; have B6 := B6.up NZ; have N := new_trans N NZ; have M := new_trans M NZ; have hown := own_new hown NZ
  clear hZ NZ c4 c6 cs l4 l6 ls
  apply region_okA
  case hm => kernel_rfl
  case hall =>
    apply allok_cons
    · exact ok_val _ fun ρ w' hN hc hF h0 hp => by have h9 := h0 9 rfl; (conv at h9 => (rhs; whnf)); have c := Blk.cell (B9.up hN); simp [execOp, go_sem, hc, hF, h9, c] <;> rfl
    apply allok_cons
    · refine ok_call 23 _ _ _ _ _ rfl Try.func23 (by kernel_rfl) (by kernel_rfl) ?_ (number_is k3 a3 b3 s3 x3 (unhide ex3)); intro a h0 hp; have h26 := hp 0 _ _ rfl rfl rfl; simp [h26]
    apply allok_cons
    · exact ok_val _ fun ρ w' hN hc hF h0 hp => by have h6 := h0 6 rfl; (conv at h6 => (rhs; whnf)); have c := Blk.cell (B6.up hN); simp [execOp, go_sem, hc, hF, h6, c] <;> rfl
    apply allok_cons
    · refine ok_call 20 _ _ _ _ _ rfl Try.func20 (by kernel_rfl) (by kernel_rfl) ?_ (div_is x3 n _ r3 (unhide hx3) (unhide hnM) (unhide hn0) rfl (unhide er3)); intro a h0 hp; have h27 := hp 1 _ _ rfl rfl rfl; have h28 := hp 2 _ _ rfl rfl rfl; simp [h27, h28]
    apply allok_cons
    · exact ok_val _ fun ρ w' hN hc hF h0 hp => by have h29 := hp 3 _ _ rfl rfl rfl; simp [execOp, go_sem, hc, hF, h29] <;> rfl
    apply allok_cons
    · exact ok_val _ fun ρ w' hN hc hF h0 hp => by have h25 := hp 4 _ _ rfl rfl rfl; simp [execOp, go_sem, hc, hF, h25] <;> rfl
    apply allok_cons
    · exact ok_val _ fun ρ w' hN hc hF h0 hp => by have h25 := hp 4 _ _ rfl rfl rfl; simp [execOp, go_sem, hc, hF, h25] <;> rfl
    apply allok_cons
    · exact ok_val _ fun ρ w' hN hc hF h0 hp => by have h25 := hp 4 _ _ rfl rfl rfl; simp [execOp, go_sem, hc, hF, h25] <;> rfl
    apply allok_cons
    · exact ok_alloc _ _ rfl zero_u
    apply allok_cons
    · exact ok_alloc _ _ rfl zero_u
    apply allok_cons
    · exact ok_store _ 8 10 30 5 _ _ rfl rfl rfl rfl rfl rfl rfl rfl size_u rfl (by simp [Value.oneCell'])
    apply allok_cons
    · exact ok_store _ 9 11 31 6 _ _ rfl rfl rfl rfl rfl rfl rfl rfl size_u rfl (by simp [Value.oneCell'])
    apply allok_cons
    · exact ok_val _ fun ρ w' hN hc hF h0 hp => by have h32 := hp 7 _ _ rfl rfl rfl; simp [execOp, go_sem, hc, hF, h32] <;> rfl
    exact allok_nil
  case hops => kernel_rfl
  case hlen => rfl
  case hputs => rfl
  intro g V3 hN1 hB hD
  simp [frame, gives, Act.put]
  have kk10 := (hB 8 _ _ 10 _ rfl rfl).1
  have B10 : Blk V3 (g 8) _ _ := (hB 8 _ _ 10 _ rfl rfl).2
  have kk11 := (hB 9 _ _ 11 _ rfl rfl).1
  have B11 : Blk V3 (g 9) _ _ := (hB 9 _ _ 11 _ rfl rfl).2
  have hown := own_new hown hN1
  have M := new_trans M hN1
  have Bs := Bs.up hN1
  have B4 := B4.up hN1
  have B6 := B6.up hN1
  have N := new_trans N hN1
  have d8_9 := hD 8 9 _ _ _ _ rfl rfl (by decide)
  generalize g 8 = p10 at *
  generalize g 9 = p11 at *
  clear hB hD g hN1
  try clear cs
  try clear ls
  have cs := Bs.cell; have ls := Bs.lt
  try clear c4
  try clear l4
  have c4 := B4.cell; have l4 := B4.lt
  try clear c6
  try clear l6
  have c6 := B6.cell; have l6 := B6.lt
  try clear c10
  try clear l10
  have c10 := B10.cell; have l10 := B10.lt
  try clear c11
  try clear l11
  have c11 := B11.cell; have l11 := B11.lt
  clear B10 c10 l10
  have hown := own_new hown (new_alloc (new_refl V3) (.cells (uc r3) 26))
  go_wp2_with ((at_builtin; refine append_u rfl _ _ rfl Y.heap.size _ 2 _ rfl hown V3.heap.size _ r3 (Blk.new_ _ _ _) rfl (by omega) (Nat.le_trans M.size (by simp)) ?_; intro v3 Y3 hown3 hg))
  have OB : Hid _ := hide (⟨(Bs.al (.cells (uc r3) 26)).grown hown (unhide ks) hg, (B4.al (.cells (uc r3) 26)).grown hown (unhide k4) hg, (B6.al (.cells (uc r3) 26)).grown hown (unhide k6) hg⟩ : _ ∧ _ ∧ _)
  have N := new_grown (new_alloc N (.cells (uc r3) 26)) hown (unhide kY) hg; have M := new_grown (new_alloc M (.cells (uc r3) 26)) hown (Nat.le_refl _) hg
  clear c4 c6 cs l4 l6 ls c11 l11 B11 B9 Bs B4 B6 hg
  obtain ⟨Bs, B4, B6⟩ := unhide OB
  clear OB hown; have hown := hown3; clear hown3
  have c4 := B4.cell; have c6 := B6.cell; have cs := Bs.cell; have l4 := B4.lt; have l6 := B6.lt; have ls := Bs.lt
  rw [rounds_succ]
  have f4 := B4.free
  go_wp2
  obtain ⟨g, cap, cur, rfl, hg, OB, hcap, hcur⟩ := own_cells hown
  have c := (B4.set4 (.int .u64 (lim n 0)) (.int .u64 (lim n 1)) (.int .u64 (lim n 2)) (.int .u64 (lim n 3))).cell
  have gk4 : g ≠ w.heap.size + 1 := by have := unhide k4; omega
  exact bodyPost_ret (v := .tuple #[u n, .slice (some ⟨g, 0, none⟩) 3 cap]) (by simp [results, Try.results10, go_sem, c]) rfl ⟨g, cap, cur, rfl, new_set4 N (g := w.heap.size + 1) (by omega) _ _ _ _, OB.far4 gk4 _ _ _ _, hcap, fun i u h => hcur i u (by simpa using h)⟩

theorem ring3 (k a b : Int) (s : ByteArray) (k1 a1 b1 : Int) (s1 : ByteArray) (k2 a2 b2 : Int) (s2 : ByteArray) (k3 a3 b3 : Int) (s3 : ByteArray) (gs : Nat) (tt : TypeId) (w : World) (Bs : Blk w gs tt #[.int .i64 k1, .int .i64 a1, .int .i64 b1, .string s1, .int .i64 k2, .int .i64 a2, .int .i64 b2, .string s2, .int .i64 k3, .int .i64 a3, .int .i64 b3, .string s3]) :
    Calls Try.prog 10 #[.agg #[.int .i64 k, .int .i64 a, .int .i64 b, .string s], .slice (some ⟨gs, 0, none⟩) 3 3] w (RingPost (mo (num k a b)) [num k1 a1 b1 % mo (num k a b), num k2 a2 b2 % mo (num k a b), num k3 a3 b3 % mo (num k a b)] w) := by
  by_cases h : num k a b = 0
  · exact ring3z k a b s k1 a1 b1 s1 k2 a2 b2 s2 k3 a3 b3 s3 gs tt h w Bs
  · exact ring3p k a b s k1 a1 b1 s1 k2 a2 b2 s2 k3 a3 b3 s3 gs tt h w Bs
end Go.Proofs.Ytdelfiijbkhldaa
