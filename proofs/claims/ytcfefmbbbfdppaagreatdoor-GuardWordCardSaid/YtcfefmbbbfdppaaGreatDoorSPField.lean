/- What the functions of wide and field make of numbers, as contracts over data. Conditions: the numbers are below 2 to the 256, those of a ring below its modulus. -/
import Derived.Test.YtcfefmbbbfdppaaGreatDoorSPow
import Derived.Test.YtcfefmbbbfdppaaGreatDoorSBytes
namespace Go.Proofs.YtcfefmbbbfdppaaGreatDoor
open Go.RowKit
set_option linter.unusedVariables false
set_option maxRecDepth 100000
set_option linter.unusedSimpArgs false
theorem div_to (a b q r : Nat) (ha : a < M256) (hb : b < M256) (hb0 : 0 < b) (hq : a / b = q) (hr : a % b = r) (w : World) :
    Calls Tryz.prog 70 #[u a, u b] w fun e w' => e = .returned (.tuple #[u q, u r, .int .i64 0]) ∧ New w w' := hq ▸ hr ▸ divmod_any a b ha hb hb0 w
def numAt (w : World) (g : Nat) : Nat :=
  match w.heap[g]? with
  | some (.cells cs _ _) => match cs.toList with
    | [.int _ a, .int _ b, .int _ c, .int _ d] => mk4 a b c d
    | _ => 0
  | _ => 0
theorem numAt_is {w : World} {g : Nat} {t : TypeId} {s : Nat} (B : Blk w g t (uc s)) (hs : s < M256) : numAt w g = s := by
  unfold numAt
  unfold Blk at B
  rw [B]
  show mk4 (lim s 0) (lim s 1) (lim s 2) (lim s 3) = s
  have v := val_lim s hs
  unfold mk4
  omega
theorem one_iff (r : Nat) (hr : r < M256) : (lim r 0 == 1 && (lim r 1 == 0 && (lim r 2 == 0 && lim r 3 == 0))) = decide (r = 1) := same_iff r 1 hr (by decide)
structure Round (a m r s x t : Nat) : Prop where
  hr : r ≤ m
  hs : s < m
  hx : x < m
  ht : t < m
  er : x * a % m = r % m
  es : t * a % m = s % m
  eg : Nat.gcd r s = Nat.gcd m a
theorem Round.start (a m : Nat) (hm : 0 < m) (ha : a < m) : Round a m m a 0 (1 % m) := {
  hr := Nat.le_refl _
  hs := ha
  hx := hm
  ht := Nat.mod_lt _ hm
  er := by simp
  es := by rw [Nat.mod_mul_mod, Nat.one_mul]
  eg := rfl }
theorem Round.next {a m r s x t : Nat} (h : Round a m r s x t) (h0 : s ≠ 0) : Round a m s (r % s) t ((x + m - (r / s % m) * t % m) % m) := {
  hr := Nat.le_of_lt h.hs
  hs := Nat.lt_trans (Nat.mod_lt _ (Nat.pos_of_ne_zero h0)) h.hs
  hx := h.ht
  ht := Nat.mod_lt _ (Nat.lt_of_le_of_lt (Nat.zero_le _) h.hs)
  er := h.es
  es := FM.inv_step (Nat.lt_of_le_of_lt (Nat.zero_le _) h.hs) h.er h.es
  eg := by rw [← h.eg, Nat.gcd_comm r s, Nat.gcd_rec s r, Nat.gcd_comm] }
set_option maxHeartbeats 4000000 in
theorem inv_walk (a m : Nat) (hm : m < M256) (ha : a < m) (w : World) (R : Ending → Prop)
    (hok : ∀ x, x < m → x * a % m = 1 % m → Nat.gcd m a = 1 → R (.returned (.tuple #[u x, .int .i64 0])))
    (hno : Nat.gcd m a ≠ 1 → R (.returned (.tuple #[.agg #[.int .u64 0, .int .u64 0, .int .u64 0, .int .u64 0], .int .i64 5]))) :
    Calls Tryz.prog 33 #[u a, u m] w fun e w' => R e ∧ New w w' := by
  obtain ⟨q, eq⟩ : ∃ q, 1 / m = q := ⟨_, rfl⟩
  obtain ⟨o, eo⟩ : ∃ o, 1 % m = o := ⟨_, rfl⟩
  have R0 := Round.start a m (by omega) ha
  rw [eo] at R0
  have R0 := hide R0; have hm := hide hm; have ha := hide ha; have eq := hide eq; have eo := hide eo; have hok := hide hok; have hno := hide hno
  go_enter Tryz.func33, Tryz.ntmps33
  go_wp2_with fail
  generalize hW : World.alloc _ _ = W
  obtain ⟨N, B2, B3, B4, B18⟩ := boxes4 hW
  clear hW
  generalize q18 : w.heap.size + 1 + 1 + 1 = g18 at *
  generalize q4 : w.heap.size + 1 + 1 = g4 at *
  generalize q3 : w.heap.size + 1 = g3 at *
  have hL : Hid (w.heap.size < g3 ∧ g3 < g4 ∧ g4 < g18) := hide (by omega)
  clear q3 q4 q18
  try clear c2
  try clear l2
  try clear f2
  have c2 := B2.cell; have l2 := B2.lt
  try clear c3
  try clear l3
  try clear f3
  have c3 := B3.cell; have l3 := B3.lt
  try clear c4
  try clear l4
  try clear f4
  have c4 := B4.cell; have l4 := B4.lt
  try clear c18
  try clear l18
  try clear f18
  have c18 := B18.cell; have l18 := B18.lt
  refine (fault1 a m g18 _ (unhide hm) (unhide ha) _ B18).mono ?_
  rintro e w1 ⟨rfl, hb⟩
  have U : New W w1 := new_trans (by (repeat' (first | with_reducible exact new_refl _ | with_reducible assumption | with_reducible refine new_drewN ?_ _ | with_reducible refine new_drew ?_ | with_reducible refine new_alloc ?_ _ | with_reducible refine new_set ?_ ?_ _ | with_reducible refine new_freeze ?_ ?_ _ | with_reducible refine new_trans ?_ (by assumption) | (simp; done) | (simp; omega)))) hb
  have N : New w w1 := new_trans (by (repeat' (first | with_reducible exact new_refl _ | with_reducible assumption | with_reducible refine new_drewN ?_ _ | with_reducible refine new_drew ?_ | with_reducible refine new_alloc ?_ _ | with_reducible refine new_set ?_ ?_ _ | with_reducible refine new_freeze ?_ ?_ _ | with_reducible refine new_trans ?_ (by assumption) | (simp; done) | (simp; omega)))) hb
  have B2 := B2.up U
  have B3 := B3.up U
  have B4 := B4.up U
  try clear c2
  try clear l2
  try clear f2
  have c2 := B2.cell; have l2 := B2.lt
  try clear c3
  try clear l3
  try clear f3
  have c3 := B3.cell; have l3 := B3.lt
  try clear c4
  try clear l4
  try clear f4
  have c4 := B4.cell; have l4 := B4.lt
  clear hb U
  clear B18 c18 l18
  go_wp2_with fail
  refine (div_one m q o (unhide hm) (by have := unhide ha; omega) (unhide eq) (unhide eo) _).mono ?_
  rintro e w2 ⟨rfl, hb⟩
  have U : New w1 w2 := new_trans (by (repeat' (first | with_reducible exact new_refl _ | with_reducible assumption | with_reducible refine new_drewN ?_ _ | with_reducible refine new_drew ?_ | with_reducible refine new_alloc ?_ _ | with_reducible refine new_set ?_ ?_ _ | with_reducible refine new_freeze ?_ ?_ _ | with_reducible refine new_trans ?_ (by assumption) | (simp; done) | (simp; omega)))) hb
  have N : New w w2 := new_trans (by (repeat' (first | with_reducible exact new_refl _ | with_reducible assumption | with_reducible refine new_drewN ?_ _ | with_reducible refine new_drew ?_ | with_reducible refine new_alloc ?_ _ | with_reducible refine new_set ?_ ?_ _ | with_reducible refine new_freeze ?_ ?_ _ | with_reducible refine new_trans ?_ (by assumption) | (simp; done) | (simp; omega)))) hb
  have B2 := B2.up U
  have B3 := B3.up U
  have B4 := B4.up U
  try clear c2
  try clear l2
  try clear f2
  have c2 := B2.cell; have l2 := B2.lt
  try clear c3
  try clear l3
  try clear f3
  have c3 := B3.cell; have l3 := B3.lt
  try clear c4
  try clear l4
  try clear f4
  have c4 := B4.cell; have l4 := B4.lt
  clear hb U
  go_wp2_with fail
  generalize hZ : World.alloc _ _ = Z
  obtain ⟨NZ, B7, B8⟩ := boxes2 hZ
  have B2 := B2.up NZ; have B3 := B3.up NZ; have B4 := B4.up NZ; have N := new_trans N NZ
  have k38 : g3 < w2.heap.size + 1 := by omega
  have k48 : g4 < w2.heap.size + 1 := by omega
  have k04 : w.heap.size < g3 ∧ g3 < g4 := ⟨by have := unhide hL; omega, by have := unhide hL; omega⟩
  clear hZ NZ l2 l3 l4 c2 c3 c4 B7
  generalize w2.heap.size + 1 = g8 at *
  have z3 := B3.lt; have z4' := B4.lt; have z8 := B8.lt
  have l8 := B8.lt
  apply region_okA
  case hm => kernel_rfl
  case hall =>
    apply allok_cons
    · exact ok_val _ fun ρ w' hN hc hF h0 hp => by have h3 := h0 3 rfl; (conv at h3 => (rhs; whnf)); have c := Blk.cell (B3.up hN); simp [execOp, go_sem, hc, hF, h3, c] <;> rfl
    apply allok_cons
    · exact ok_val _ fun ρ w' hN hc hF h0 hp => by have h2 := h0 2 rfl; (conv at h2 => (rhs; whnf)); have c := Blk.cell (B2.up hN); simp [execOp, go_sem, hc, hF, h2, c] <;> rfl
    apply allok_cons
    · exact ok_val _ fun ρ w' hN hc hF h0 hp => by simp [execOp, go_sem, hc, hF] <;> rfl
    apply allok_cons
    · exact ok_alloc _ _ rfl zero_u
    apply allok_cons
    · exact ok_alloc _ _ rfl zero_u
    apply allok_cons
    · exact ok_alloc _ _ rfl zero_u
    apply allok_cons
    · exact ok_store _ 3 10 31 0 _ _ rfl rfl rfl rfl rfl rfl rfl rfl size_u rfl (by simp [Value.oneCell'])
    apply allok_cons
    · exact ok_store _ 4 11 32 1 _ _ rfl rfl rfl rfl rfl rfl rfl rfl size_u rfl (by simp [Value.oneCell'])
    apply allok_cons
    · exact ok_store _ 5 12 33 2 _ _ rfl rfl rfl rfl rfl rfl rfl rfl size_u rfl (by simp [Value.oneCell'])
    exact allok_nil
  case hops => kernel_rfl
  case hlen => rfl
  case hputs => rfl
  intro g v1 hN1 hB hD
  simp [frame, gives, Act.put]
  have kk10 := (hB 3 _ _ 6 _ rfl rfl).1
  have B10 : Blk v1 (g 3) _ _ := (hB 3 _ _ 6 _ rfl rfl).2
  have kk11 := (hB 4 _ _ 7 _ rfl rfl).1
  have B11 : Blk v1 (g 4) _ _ := (hB 4 _ _ 7 _ rfl rfl).2
  have kk12 := (hB 5 _ _ 8 _ rfl rfl).1
  have B12 : Blk v1 (g 5) _ _ := (hB 5 _ _ 8 _ rfl rfl).2
  have B3 := B3.up hN1
  have B4 := B4.up hN1
  have B8 := B8.up hN1
  have N := new_trans N hN1
  have d3_4 := hD 3 4 _ _ _ _ rfl rfl (by decide)
  have d3_5 := hD 3 5 _ _ _ _ rfl rfl (by decide)
  have d4_5 := hD 4 5 _ _ _ _ rfl rfl (by decide)
  generalize g 3 = p10 at *
  generalize g 4 = p11 at *
  generalize g 5 = p12 at *
  clear hB hD g hN1
  try clear c3
  try clear l3
  have c3 := B3.cell; have l3 := B3.lt
  try clear c4
  try clear l4
  have c4 := B4.cell; have l4 := B4.lt
  try clear c8
  try clear l8
  have c8 := B8.cell; have l8 := B8.lt
  try clear c10
  try clear l10
  have c10 := B10.cell; have l10 := B10.lt
  try clear c11
  try clear l11
  have c11 := B11.cell; have l11 := B11.lt
  try clear c12
  try clear l12
  have c12 := B12.cell; have l12 := B12.lt
  have D : Hid (p10 ≠ p11 ∧ p10 ≠ p12 ∧ p11 ≠ p12 ∧ g3 < p10 ∧ g3 < p11 ∧ g3 < p12 ∧ g4 < p10 ∧ g4 < p11 ∧ g4 < p12 ∧ g8 < p10 ∧ g8 < p11 ∧ g8 < p12 ∧ g3 < g4 ∧ g4 < g8 ∧ w.heap.size < g3) := hide ⟨d3_4, d3_5, d4_5, by omega, by omega, by omega, by omega, by omega, by omega, by omega, by omega, by omega, by omega, by omega, by omega⟩
  clear d3_4 d3_5 d4_5 z3 z4' z8 kk10 kk11 kk12 k04 k38 k48 hL l3 l4 l8 l10 l11 l12 c3 c4 c8 c10 c11 c12
  have B12 : Blk v1 p12 27 (uc 0) := by rw [uc_zero]; exact B12
  go_wp2_with fail
  go_loopw [15] (fun _ wr => ∃ r s x t : Nat, Blk wr p10 27 (uc r) ∧ Blk wr p11 27 (uc s) ∧ Blk wr p12 27 (uc x) ∧ Blk wr g8 27 (uc t) ∧ Blk wr g3 27 (uc m) ∧ Blk wr g4 27 z4 ∧ New w wr ∧ Hid (Round a m r s x t)) (fun _ wr => numAt wr p11)
  case atStart => exact ⟨m, a, 0, o, B10, B11, B12, B8, B3, B4, N, R0⟩
  case round =>
    clear B10 B11 B12 B8 B3 B4 N R0
    obtain ⟨r, s, x, t, B10, B11, B12, B8, B3, B4, N, R0⟩ := hrel
    have hs' : s < M256 := by have := (unhide R0).hs; have := unhide hm; omega
    by_cases h0 : s = 0
    · subst h0
      have c11 : ∀ i, wr.cell? ⟨p11, i, none⟩ = z4[i]? := by have := B11.cell; rw [uc_zero] at this; exact this
      have c10 := B10.cell; have c4 := B4.cell; have c12 := B12.cell; have f4 := B4.free
      have eg := (unhide R0).eg
      rw [Nat.gcd_zero_right] at eg
      have hrM : r < M256 := by have := (unhide R0).hr; have := unhide hm; omega
      by_cases h1 : r = 1
      · have hR := unhide hok x (unhide R0).hx (by have := (unhide R0).er; rw [h1] at this; exact this) (by rw [← eg, h1])
        have hR := hide hR
        subst h1
        have c10 : ∀ i, wr.cell? ⟨p10, i, none⟩ = (#[.int .u64 1, .int .u64 0, .int .u64 0, .int .u64 0] : Array Value)[i]? := by have := B10.cell; rw [show uc 1 = #[.int .u64 1, .int .u64 0, .int .u64 0, .int .u64 0] from Value.agg.inj u_one] at this; exact this
        clear hs' eg hrM
        go_wp2
        have c := (B4.set4 (.int .u64 (lim x 0)) (.int .u64 (lim x 1)) (.int .u64 (lim x 2)) (.int .u64 (lim x 3))).cell
        exact bodyPost_ret (v := .tuple #[u x, .int .i64 0]) (by simp [results, Tryz.results33, go_sem, c]) rfl ⟨unhide hR, new_set4 N (g := g4) (by have := unhide D; omega) _ _ _ _⟩
      · have hR := hide (unhide hno (by rw [← eg]; exact h1))
        have e1 := one_iff r hrM
        rw [decide_eq_false h1] at e1
        clear hs' eg hrM h1
        go_wp2
        have c := (B4.set4 (.int .u64 0) (.int .u64 0) (.int .u64 0) (.int .u64 0)).cell
        exact bodyPost_ret (v := .tuple #[.agg #[.int .u64 0, .int .u64 0, .int .u64 0, .int .u64 0], .int .i64 5]) (by simp [results, Tryz.results33, go_sem, c]) rfl ⟨unhide hR, new_set4 N (g := g4) (by have := unhide D; omega) _ _ _ _⟩
    · have ez := zero_iff s hs'
      rw [decide_eq_false h0] at ez
      have R1 := hide ((unhide R0).next h0)
      have hrM : r < M256 := by have := (unhide R0).hr; have := unhide hm; omega
      have m0 : 0 < m := by have := unhide ha; omega
      have hxm := hide (unhide R0).hx; have htm := hide (unhide R0).ht
      have hms := hide (numAt_is B11 hs')
      obtain ⟨qq, e1⟩ : ∃ q, r / s = q := ⟨_, rfl⟩
      obtain ⟨l, e2⟩ : ∃ l, r % s = l := ⟨_, rfl⟩
      obtain ⟨q2, e3⟩ : ∃ q, qq / m = q := ⟨_, rfl⟩
      obtain ⟨qm, e4⟩ : ∃ l, qq % m = l := ⟨_, rfl⟩
      obtain ⟨y, e5⟩ : ∃ y, qm * t % m = y := ⟨_, rfl⟩
      obtain ⟨z, e6⟩ : ∃ z, (x + m - y) % m = z := ⟨_, rfl⟩
      rw [e1, e2, e4, e5, e6] at R1
      have hl : l < s := by rw [← e2]; exact Nat.mod_lt _ (Nat.pos_of_ne_zero h0)
      have hqq : qq < M256 := by rw [← e1]; exact Nat.lt_of_le_of_lt (Nat.div_le_self _ _) hrM
      have hqm : qm < m := by rw [← e4]; exact Nat.mod_lt _ m0
      have hy : y < m := by rw [← e5]; exact Nat.mod_lt _ m0
      have s0 := hide (Nat.pos_of_ne_zero h0); have m0 := hide m0; have hrM := hide hrM; have hs2 := hide hs'; have hl := hide hl; have hqq := hide hqq; have hqm := hide hqm; have hy := hide hy
      have e1 := hide e1; have e2 := hide e2; have e3 := hide e3; have e4 := hide e4; have e5 := hide e5; have e6 := hide e6
      clear hs' h0 R0
      have c3 := B3.cell; have c4 := B4.cell; have c8 := B8.cell; have c10 := B10.cell; have c11 := B11.cell; have c12 := B12.cell
      have l3 := B3.lt; have l4 := B4.lt; have l8 := B8.lt; have l10 := B10.lt; have l11 := B11.lt; have l12 := B12.lt
      go_wp2_with fail
      refine (div_to r s qq l (unhide hrM) (unhide hs2) (unhide s0) (unhide e1) (unhide e2) _).mono ?_
      rintro e v3 ⟨rfl, hb⟩
      have U : New wr v3 := new_trans (by (repeat' (first | with_reducible exact new_refl _ | with_reducible assumption | with_reducible refine new_drewN ?_ _ | with_reducible refine new_drew ?_ | with_reducible refine new_alloc ?_ _ | with_reducible refine new_set ?_ ?_ _ | with_reducible refine new_freeze ?_ ?_ _ | with_reducible refine new_trans ?_ (by assumption) | (simp; done) | (simp; omega)))) hb
      have N : New w v3 := new_trans (by (repeat' (first | with_reducible exact new_refl _ | with_reducible assumption | with_reducible refine new_drewN ?_ _ | with_reducible refine new_drew ?_ | with_reducible refine new_alloc ?_ _ | with_reducible refine new_set ?_ ?_ _ | with_reducible refine new_freeze ?_ ?_ _ | with_reducible refine new_trans ?_ (by assumption) | (simp; done) | (simp; omega)))) hb
      have B3 := B3.up U
      have B4 := B4.up U
      have B8 := B8.up U
      have B10 := B10.up U
      have B11 := B11.up U
      have B12 := B12.up U
      try clear c3
      try clear l3
      try clear f3
      have c3 := B3.cell; have l3 := B3.lt
      try clear c4
      try clear l4
      try clear f4
      have c4 := B4.cell; have l4 := B4.lt
      try clear c8
      try clear l8
      try clear f8
      have c8 := B8.cell; have l8 := B8.lt
      try clear c10
      try clear l10
      try clear f10
      have c10 := B10.cell; have l10 := B10.lt
      try clear c11
      try clear l11
      try clear f11
      have c11 := B11.cell; have l11 := B11.lt
      try clear c12
      try clear l12
      try clear f12
      have c12 := B12.cell; have l12 := B12.lt
      clear hb U
      go_wp2_with fail
      generalize hY : World.alloc _ _ = Y
      obtain ⟨NZ, B13, B14⟩ := boxes2 hY
      have B3 := B3.up NZ; have B4 := B4.up NZ; have B8 := B8.up NZ; have B10 := B10.up NZ; have B11 := B11.up NZ; have B12 := B12.up NZ
      have hb13 : w.heap.size ≤ v3.heap.size := N.size
      have hL : Hid (w.heap.size ≤ v3.heap.size ∧ g3 < v3.heap.size ∧ g4 < v3.heap.size ∧ g8 < v3.heap.size ∧ p10 < v3.heap.size ∧ p11 < v3.heap.size ∧ p12 < v3.heap.size) := hide ⟨hb13, l3, l4, l8, l10, l11, l12⟩
      have N := new_trans N NZ
      clear hY NZ l3 l4 l8 l10 l11 l12 c3 c4 c8 c10 c11 c12 hb13
      have hL2 : Hid (v3.heap.size < v3.heap.size + 1) := hide (Nat.lt_succ_self _)
      generalize v3.heap.size + 1 = g14 at *
      generalize v3.heap.size = g13 at *
      have c3 := B3.cell; have c13 := B13.cell; have l3 := B3.lt
      refine (div_to qq m q2 qm (unhide hqq) (unhide hm) (unhide m0) (unhide e3) (unhide e4) _).mono ?_
      rintro e v4 ⟨rfl, hb⟩
      have U : New Y v4 := new_trans (by (repeat' (first | with_reducible exact new_refl _ | with_reducible assumption | with_reducible refine new_drewN ?_ _ | with_reducible refine new_drew ?_ | with_reducible refine new_alloc ?_ _ | with_reducible refine new_set ?_ ?_ _ | with_reducible refine new_freeze ?_ ?_ _ | with_reducible refine new_trans ?_ (by assumption) | (simp; done) | (simp; omega)))) hb
      have N : New w v4 := new_trans (by (repeat' (first | with_reducible exact new_refl _ | with_reducible assumption | with_reducible refine new_drewN ?_ _ | with_reducible refine new_drew ?_ | with_reducible refine new_alloc ?_ _ | with_reducible refine new_set ?_ ?_ _ | with_reducible refine new_freeze ?_ ?_ _ | with_reducible refine new_trans ?_ (by assumption) | (simp; done) | (simp; omega)))) hb
      have B3 := B3.up U
      have B4 := B4.up U
      have B8 := B8.up U
      have B10 := B10.up U
      have B11 := B11.up U
      have B12 := B12.up U
      have B13 := B13.up U
      have B14 := B14.up U
      try clear c3
      try clear l3
      try clear f3
      have c3 := B3.cell; have l3 := B3.lt
      try clear c4
      try clear l4
      try clear f4
      have c4 := B4.cell; have l4 := B4.lt
      try clear c8
      try clear l8
      try clear f8
      have c8 := B8.cell; have l8 := B8.lt
      try clear c10
      try clear l10
      try clear f10
      have c10 := B10.cell; have l10 := B10.lt
      try clear c11
      try clear l11
      try clear f11
      have c11 := B11.cell; have l11 := B11.lt
      try clear c12
      try clear l12
      try clear f12
      have c12 := B12.cell; have l12 := B12.lt
      try clear c13
      try clear l13
      try clear f13
      have c13 := B13.cell; have l13 := B13.lt
      try clear c14
      try clear l14
      try clear f14
      have c14 := B14.cell; have l14 := B14.lt
      clear hb U
      have f13 := B13.free
      clear c3 c4 c8 c10 c11 c12 c14 l3 l4 l8 l10 l11 l12 l13 l14
      go_wp2_with fail
      have hL3 := hL; have hL : Hid _ := hide (⟨unhide hL3, unhide hL2, unhide D⟩ : _ ∧ _ ∧ _)
      have B13 : Blk _ _ _ (uc (qm)) := B13.set4 (.int .u64 (lim (qm) 0)) (.int .u64 (lim (qm) 1)) (.int .u64 (lim (qm) 2)) (.int .u64 (lim (qm) 3))
      have B3 := B3.far4 (g' := g13) (by have := unhide hL; omega) (.int .u64 (lim (qm) 0)) (.int .u64 (lim (qm) 1)) (.int .u64 (lim (qm) 2)) (.int .u64 (lim (qm) 3))
      have B4 := B4.far4 (g' := g13) (by have := unhide hL; omega) (.int .u64 (lim (qm) 0)) (.int .u64 (lim (qm) 1)) (.int .u64 (lim (qm) 2)) (.int .u64 (lim (qm) 3))
      have B8 := B8.far4 (g' := g13) (by have := unhide hL; omega) (.int .u64 (lim (qm) 0)) (.int .u64 (lim (qm) 1)) (.int .u64 (lim (qm) 2)) (.int .u64 (lim (qm) 3))
      have B10 := B10.far4 (g' := g13) (by have := unhide hL; omega) (.int .u64 (lim (qm) 0)) (.int .u64 (lim (qm) 1)) (.int .u64 (lim (qm) 2)) (.int .u64 (lim (qm) 3))
      have B11 := B11.far4 (g' := g13) (by have := unhide hL; omega) (.int .u64 (lim (qm) 0)) (.int .u64 (lim (qm) 1)) (.int .u64 (lim (qm) 2)) (.int .u64 (lim (qm) 3))
      have B12 := B12.far4 (g' := g13) (by have := unhide hL; omega) (.int .u64 (lim (qm) 0)) (.int .u64 (lim (qm) 1)) (.int .u64 (lim (qm) 2)) (.int .u64 (lim (qm) 3))
      have B14 := B14.far4 (g' := g13) (by have := unhide hL; omega) (.int .u64 (lim (qm) 0)) (.int .u64 (lim (qm) 1)) (.int .u64 (lim (qm) 2)) (.int .u64 (lim (qm) 3))
      have N := new_set4 N (g := g13) (by have := unhide hL; omega) (.int .u64 (lim (qm) 0)) (.int .u64 (lim (qm) 1)) (.int .u64 (lim (qm) 2)) (.int .u64 (lim (qm) 3))
      try clear c13
      try clear l13
      try clear f13
      try clear c3
      try clear l3
      try clear f3
      try clear c4
      try clear l4
      try clear f4
      try clear c8
      try clear l8
      try clear f8
      try clear c10
      try clear l10
      try clear f10
      try clear c11
      try clear l11
      try clear f11
      try clear c12
      try clear l12
      try clear f12
      try clear c14
      try clear l14
      try clear f14
      generalize World.setCell _ _ _ = v5 at *
      try clear c13
      try clear l13
      try clear f13
      have c13 := B13.cell; have l13 := B13.lt
      try clear c3
      try clear l3
      try clear f3
      have c3 := B3.cell; have l3 := B3.lt
      try clear c4
      try clear l4
      try clear f4
      have c4 := B4.cell; have l4 := B4.lt
      try clear c8
      try clear l8
      try clear f8
      have c8 := B8.cell; have l8 := B8.lt
      try clear c10
      try clear l10
      try clear f10
      have c10 := B10.cell; have l10 := B10.lt
      try clear c11
      try clear l11
      try clear f11
      have c11 := B11.cell; have l11 := B11.lt
      try clear c12
      try clear l12
      try clear f12
      have c12 := B12.cell; have l12 := B12.lt
      try clear c14
      try clear l14
      try clear f14
      have c14 := B14.cell; have l14 := B14.lt
      have f13 := B13.free
      have f3 := B3.free
      have f4 := B4.free
      have f8 := B8.free
      have f10 := B10.free
      have f11 := B11.free
      have f12 := B12.free
      have f14 := B14.free
      have D' := unhide hL
      refine region_set (by kernel_rfl) [.inl (u s), .inl (u l), .inr (.inr (0, uc s)), .inr (.inr (1, uc l))] [p10, p11] (by simp; try omega) rfl (by kernel_rfl) rfl ?_ ?_
      · refine ⟨?_, ?_, ?_, ?_, trivial⟩
        · exact set_read _ fun ρ w' hk hI hc h0 hp => by have h11 := h0 11 rfl; (conv at h11 => (rhs; whnf)); have c := Blk.cell (hI 1 _ 3 _ rfl rfl rfl _ _ B11); simp [execOp, go_sem, hc, h11, c] <;> rfl
        · exact set_val _ fun ρ w' hk hc h0 hp => by have h14 := h0 14 rfl; (conv at h14 => (rhs; whnf)); have c := Blk.cell ((hk.block _ B14.lt (by simp; try omega)).trans B14); simp [execOp, go_sem, hc, h14, c] <;> rfl
        · exact set_store 27 0 _ 10 51 0 _ _ _ rfl rfl rfl B10 rfl rfl rfl rfl rfl size_u rfl (by simp [Value.oneCell'])
        · exact set_store 27 1 _ 11 52 1 _ _ _ rfl rfl rfl B11 rfl rfl rfl rfl rfl size_u rfl (by simp [Value.oneCell'])
      intro v6 hK hB
      have B3 : Blk v6 _ _ _ := (hK.block _ B3.lt (by simp; try omega)).trans B3
      have B4 : Blk v6 _ _ _ := (hK.block _ B4.lt (by simp; try omega)).trans B4
      have B8 : Blk v6 _ _ _ := (hK.block _ B8.lt (by simp; try omega)).trans B8
      have B12 : Blk v6 _ _ _ := (hK.block _ B12.lt (by simp; try omega)).trans B12
      have B13 : Blk v6 _ _ _ := (hK.block _ B13.lt (by simp; try omega)).trans B13
      have B10 : Blk v6 _ _ _ := hB 0 _ 2 _ _ _ rfl rfl B10
      have B11 : Blk v6 _ _ _ := hB 1 _ 3 _ _ _ rfl rfl B11
      have N := hK.since N (by simp; try omega)
      clear hK hB
      simp [frame, gives, Act.put]
      try clear c3
      try clear l3
      try clear f3
      have c3 := B3.cell; have l3 := B3.lt; have f3 := B3.free
      try clear c4
      try clear l4
      try clear f4
      have c4 := B4.cell; have l4 := B4.lt; have f4 := B4.free
      try clear c8
      try clear l8
      try clear f8
      have c8 := B8.cell; have l8 := B8.lt; have f8 := B8.free
      try clear c12
      try clear l12
      try clear f12
      have c12 := B12.cell; have l12 := B12.lt; have f12 := B12.free
      try clear c13
      try clear l13
      try clear f13
      have c13 := B13.cell; have l13 := B13.lt; have f13 := B13.free
      try clear c10
      try clear l10
      try clear f10
      have c10 := B10.cell; have l10 := B10.lt; have f10 := B10.free
      try clear c11
      try clear l11
      try clear f11
      have c11 := B11.cell; have l11 := B11.lt; have f11 := B11.free
      go_wp2_with fail
      refine region_set (by kernel_rfl) [.inl (u t), .inl (u x), .inl (u qm), .inl (u t), .inl (u m), .inl (u y), .inl (u m), .inl (u z), .inr (.inr (0, uc t)), .inr (.inr (1, uc z))] [p12, g8] (by simp; try omega) rfl (by kernel_rfl) rfl ?_ ?_
      · refine ⟨?_, ?_, ?_, ?_, ?_, ?_, ?_, ?_, ?_, ?_, trivial⟩
        · exact set_read _ fun ρ w' hk hI hc h0 hp => by have h8 := h0 8 rfl; (conv at h8 => (rhs; whnf)); have c := Blk.cell (hI 1 _ 9 _ rfl rfl rfl _ _ B8); simp [execOp, go_sem, hc, h8, c] <;> rfl
        · exact set_read _ fun ρ w' hk hI hc h0 hp => by have h12 := h0 12 rfl; (conv at h12 => (rhs; whnf)); have c := Blk.cell (hI 0 _ 8 _ rfl rfl rfl _ _ B12); simp [execOp, go_sem, hc, h12, c] <;> rfl
        · exact set_val _ fun ρ w' hk hc h0 hp => by have h13 := h0 13 rfl; (conv at h13 => (rhs; whnf)); have c := Blk.cell ((hk.block _ B13.lt (by simp; try omega)).trans B13); simp [execOp, go_sem, hc, h13, c] <;> rfl
        · exact set_read _ fun ρ w' hk hI hc h0 hp => by have h8 := h0 8 rfl; (conv at h8 => (rhs; whnf)); have c := Blk.cell (hI 1 _ 9 _ rfl rfl rfl _ _ B8); simp [execOp, go_sem, hc, h8, c] <;> rfl
        · exact set_val _ fun ρ w' hk hc h0 hp => by have h3 := h0 3 rfl; (conv at h3 => (rhs; whnf)); have c := Blk.cell ((hk.block _ B3.lt (by simp; try omega)).trans B3); simp [execOp, go_sem, hc, h3, c] <;> rfl
        · refine set_call 72 _ _ _ _ _ rfl Tryz.func72 (by kernel_rfl) (by kernel_rfl) ?_ (fmul_to qm t m y (unhide hm) (unhide hqm) (Nat.lt_trans (unhide htm) (unhide hm)) (unhide e5)); intro a h0 hp; have h55 := hp 2 _ _ rfl rfl rfl; have h56 := hp 3 _ _ rfl rfl rfl; have h57 := hp 4 _ _ rfl rfl rfl; simp [h55, h56, h57]
        · exact set_val _ fun ρ w' hk hc h0 hp => by have h3 := h0 3 rfl; (conv at h3 => (rhs; whnf)); have c := Blk.cell ((hk.block _ B3.lt (by simp; try omega)).trans B3); simp [execOp, go_sem, hc, h3, c] <;> rfl
        · refine set_call 71 _ _ _ _ _ rfl Tryz.func71 (by kernel_rfl) (by kernel_rfl) ?_ (fsub_to x y m z (unhide hm) (unhide hxm) (unhide hy) (unhide e6)); intro a h0 hp; have h54 := hp 1 _ _ rfl rfl rfl; have h58 := hp 5 _ _ rfl rfl rfl; have h59 := hp 6 _ _ rfl rfl rfl; simp [h54, h58, h59]
        · exact set_store 27 0 _ 12 53 0 _ _ _ rfl rfl rfl B12 rfl rfl rfl rfl rfl size_u rfl (by simp [Value.oneCell'])
        · exact set_store 27 1 _ 8 60 7 _ _ _ rfl rfl rfl B8 rfl rfl rfl rfl rfl size_u rfl (by simp [Value.oneCell'])
      intro v7 hK hB
      have B3 : Blk v7 _ _ _ := (hK.block _ B3.lt (by simp; try omega)).trans B3
      have B4 : Blk v7 _ _ _ := (hK.block _ B4.lt (by simp; try omega)).trans B4
      have B10 : Blk v7 _ _ _ := (hK.block _ B10.lt (by simp; try omega)).trans B10
      have B11 : Blk v7 _ _ _ := (hK.block _ B11.lt (by simp; try omega)).trans B11
      have B12 : Blk v7 _ _ _ := hB 0 _ 8 _ _ _ rfl rfl B12
      have B8 : Blk v7 _ _ _ := hB 1 _ 9 _ _ _ rfl rfl B8
      have N := hK.since N (by simp; try omega)
      clear hK hB
      simp [frame, gives, Act.put]
      try clear c3
      try clear l3
      try clear f3
      have c3 := B3.cell; have l3 := B3.lt; have f3 := B3.free
      try clear c4
      try clear l4
      try clear f4
      have c4 := B4.cell; have l4 := B4.lt; have f4 := B4.free
      try clear c10
      try clear l10
      try clear f10
      have c10 := B10.cell; have l10 := B10.lt; have f10 := B10.free
      try clear c11
      try clear l11
      try clear f11
      have c11 := B11.cell; have l11 := B11.lt; have f11 := B11.free
      try clear c12
      try clear l12
      try clear f12
      have c12 := B12.cell; have l12 := B12.lt; have f12 := B12.free
      try clear c8
      try clear l8
      try clear f8
      have c8 := B8.cell; have l8 := B8.lt; have f8 := B8.free
      clear D' hL
      go_wp2
      refine ⟨⟨s, l, t, z, B10, B11, B12, B8, B3, B4, N, R1⟩, ?_⟩
      rw [unhide hms, numAt_is B11 (Nat.lt_trans (unhide hl) (unhide hs2))]
      exact unhide hl
theorem inv_ok (a m i : Nat) (hm : m < M256) (ha : a < m) (hi : i < m) (ei : i * a % m = 1 % m) (hg : Nat.gcd m a = 1) (w : World) :
    Calls Tryz.prog 33 #[u a, u m] w fun e w' => e = .returned (.tuple #[u i, .int .i64 0]) ∧ New w w' :=
  inv_walk a m hm ha w _ (fun x hx ex _ => by rw [FM.inv_uniq hx hi (by rw [Nat.mul_comm]; exact ex) (by rw [Nat.mul_comm]; exact ei)]) (fun h => absurd hg h)
end Go.Proofs.YtcfefmbbbfdppaaGreatDoor
namespace Go.Proofs.YtcfefmbbbfdppaaGreatDoor
open Go.RowKit
set_option linter.unusedVariables false
set_option maxRecDepth 100000
theorem p_wsub (a b s : Nat) (o : Bool) (ha : a < M256) (hb : b < M256) (hs : (a + M256 - b) % M256 = s) (ho : decide (a < b) = o) : Pur Tryz.prog 86 [U a, U b] (.tup [U s, .bool o]) :=
  pur_of_calls (vs := [u a, u b]) rfl rfl rfl (sub_is a b s o ha hb hs ho)
theorem p_cmpF (a b : Nat) (c : Int) (ha : a < M256) (hb : b < M256) (hc : cmpI a b = c) : Pur Tryz.prog 46 [U a, U b] (.int .i64 c) :=
  pur_of_calls (vs := [u a, u b]) rfl rfl rfl (cmp_is a b c ha hb hc)
theorem p_div (a b q r : Nat) (ha : a < M256) (hb : b < M256) (hb0 : 0 < b) (hq : a / b = q) (hr : a % b = r) : Pur Tryz.prog 70 [U a, U b] (.tup [U q, U r, .int .i64 0]) :=
  pur_of_calls (vs := [u a, u b]) rfl rfl rfl (div_to a b q r ha hb hb0 hq hr)
theorem p_fadd (a b m r : Nat) (hm : m < M256) (ha : a < m) (hb : b < m) (hr : (a + b) % m = r) : Pur Tryz.prog 82 [U a, U b, U m] (.tup [U r, .int .i64 0]) :=
  pur_of_calls (vs := [u a, u b, u m]) rfl rfl rfl (Add_to a b m r hm ha hb hr)
theorem p_fsub (a b m r : Nat) (hm : m < M256) (ha : a < m) (hb : b < m) (hr : (a + m - b) % m = r) : Pur Tryz.prog 105 [U a, U b, U m] (.tup [U r, .int .i64 0]) :=
  pur_of_calls (vs := [u a, u b, u m]) rfl rfl rfl (Sub_to a b m r hm ha hb hr)
theorem p_fmul (a b m r : Nat) (hm : m < M256) (ha : a < m) (hb : b < m) (hr : a * b % m = r) : Pur Tryz.prog 34 [U a, U b, U m] (.tup [U r, .int .i64 0]) :=
  pur_of_calls (vs := [u a, u b, u m]) rfl rfl rfl (Mul_to a b m r hm ha hb hr)
theorem p_finv (a m i : Nat) (hm : m < M256) (ha : a < m) (hi : i < m) (ei : i * a % m = 1 % m) (hg : Nat.gcd m a = 1) : Pur Tryz.prog 33 [U a, U m] (.tup [U i, .int .i64 0]) :=
  pur_of_calls (vs := [u a, u m]) rfl rfl rfl (inv_ok a m i hm ha hi ei hg)
end Go.Proofs.YtcfefmbbbfdppaaGreatDoor
