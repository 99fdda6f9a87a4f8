/- What the walks of the laws over 256-bit numbers share: the cells of a raw thing and of a number, their sizes. No conditions. -/
import Derived.Test.YtcfefmbbbfdppaaGreatDoorSGlob
import Derived.RegionTactic
import Derived.Test.YtcfefmbbbfdppaaGreatDoorSBytes
import Derived.Test.YtcfefmbbbfdppaaGreatDoorSLoad5
import Derived.Test.YtcfefmbbbfdppaaGreatDoorSBit
import Derived.Test.YtcfefmbbbfdppaaGreatDoorSDivM
namespace Go.Proofs.YtcfefmbbbfdppaaGreatDoor
open Go.RowKit
set_option linter.unusedVariables false
set_option maxRecDepth 100000
set_option linter.unusedSimpArgs false
theorem zero_iff (n : Nat) (h : n < M256) : (lim n 0 == 0 && (lim n 1 == 0 && (lim n 2 == 0 && lim n 3 == 0))) = decide (n = 0) := by
  have := same_iff n 0 h (by decide)
  have z0 : lim 0 0 = 0 := by decide
  have z1 : lim 0 1 = 0 := by decide
  have z2 : lim 0 2 = 0 := by decide
  have z3 : lim 0 3 = 0 := by decide
  rw [z0, z1, z2, z3] at this
  exact this
theorem uc_zero : uc 0 = #[.int .u64 0, .int .u64 0, .int .u64 0, .int .u64 0] := by
  have := u_zero
  simp only [u, Value.agg.injEq] at this
  exact this
theorem bit_to (a i bit : Nat) (hi : i < 256) (h : a / 2 ^ i % 2 = bit) (w : World) :
    Calls Tryz.prog 98 #[u a, .int .i64 i] w fun e w' => e = .returned (.int .u64 (bit : Int)) ∧ New w w' := h ▸ bit_any a i hi w
theorem round_nums (bit b R : Nat) (hbit : bit ≤ 1) (hb : b < M256) (hR : R < b) : ∃ (s0 s1 : Nat) (o : Bool), (R + R) % M256 = s0 ∧ decide (M256 ≤ R + R) = o ∧ s0 < M256 ∧ s1 < M256 ∧
    Hid (bits BinOp.or IntKind.u64 (lim s0 0) (bit : Int) = lim s1 0) ∧ Hid (∀ m, m ≠ 0 → m < 4 → lim s1 m = lim s0 m) ∧
    ((o = true ∧ b ≤ 2 * R + bit ∧ (s1 + M256 - b) % M256 = 2 * R + bit - b) ∨
     (o = false ∧ b ≤ 2 * R + bit ∧ (s1 + M256 - b) % M256 = 2 * R + bit - b ∧ ∃ c : Int, cmpI s1 b = c ∧ 0 ≤ c) ∨
     (o = false ∧ 2 * R + bit < b ∧ s1 = 2 * R + bit ∧ cmpI s1 b = -1)) := by
  have hs0 : (R + R) % M256 % 2 = 0 := by unfold M256; omega
  have hs1 : (R + R) % M256 + bit < M256 := by have := mod_lt (R + R); unfold M256 at *; omega
  obtain ⟨f0, f1, f2, f3⟩ := or_bit0 ((R + R) % M256) bit hs0 hbit
  refine ⟨_, (R + R) % M256 + bit, _, rfl, rfl, mod_lt _, hs1, hide f0, hide ?_, ?_⟩
  · intro m hm hm4
    match m, hm, hm4 with
    | 1, _, _ => exact f1
    | 2, _, _ => exact f2
    | 3, _, _ => exact f3
    | 0, h, _ => exact absurd rfl h
    | m + 4, _, h => omega
  · by_cases h1 : M256 ≤ R + R
    · refine .inl ⟨by simp [h1], by omega, by unfold M256 at *; omega⟩
    · by_cases h2 : b ≤ 2 * R + bit
      · refine .inr (.inl ⟨by simp [h1], h2, by unfold M256 at *; omega, cmpI ((R + R) % M256 + bit) b, rfl, ?_⟩)
        unfold cmpI
        rw [if_neg (by unfold M256 at *; omega)]
        split <;> decide
      · refine .inr (.inr ⟨by simp [h1], by omega, by unfold M256 at *; omega, ?_⟩)
        unfold cmpI
        rw [if_pos (by unfold M256 at *; omega)]
theorem shl_one (t : Nat) (ht : t < 64) : IntKind.u64.wrap (2 ^ t) = ((2 ^ t : Nat) : Int) := by
  have h : (2 : Nat) ^ t < 18446744073709551616 := Nat.pow_lt_pow_right (by decide) ht
  have e : ((2 : Int) ^ t) = ((2 ^ t : Nat) : Int) := by simp
  rw [IntKind.wrap_u64, e]
  generalize 2 ^ t = p at h ⊢
  omega
theorem divmod_any (a b : Nat) (ha : a < M256) (hb : b < M256) (hb0 : 0 < b) (w : World) :
    Calls Tryz.prog 70 #[u a, u b] w fun e w' => e = .returned (.tuple #[u (a / b), u (a % b), .int .i64 0]) ∧ New w w' := by
  obtain ⟨L0, L1, _⟩ := blen_spec a ha
  have ez := zero_iff b hb
  rw [decide_eq_false (by omega)] at ez
  have L0 := hide L0; have L1 := hide L1; have hb0 := hide hb0; have ha' := hide ha; have hb' := hide hb
  clear ha hb
  go_enter Tryz.func70, Tryz.ntmps70
  go_wp2_with fail
  generalize hW : World.alloc _ _ = W
  have B2 : Blk W w.heap.size 27 (uc a) := by rw [← hW]; exact (((Blk.new_ _ _ _).al _).al _).al _
  have B3 : Blk W (w.heap.size + 1) 27 (uc b) := by rw [← hW]; exact ((Blk.new1 _ _ _ _).al _).al _
  have B4 : Blk W (w.heap.size + 1 + 1) 27 (uc 0) := by rw [← hW, uc_zero]; exact (Blk.new2 _ _ _ _ _).al _
  have B5 : Blk W (w.heap.size + 1 + 1 + 1) 27 (uc 0) := by rw [← hW, uc_zero]; exact Blk.new3 _ _ _ _ _ _
  have N : New w W := by rw [← hW]; (repeat' (first | with_reducible exact new_refl _ | with_reducible assumption | with_reducible refine new_drewN ?_ _ | with_reducible refine new_drew ?_ | with_reducible refine new_alloc ?_ _ | with_reducible refine new_set ?_ ?_ _ | with_reducible refine new_freeze ?_ ?_ _ | with_reducible refine new_trans ?_ (by assumption) | (simp; done) | (simp; omega)))
  clear hW
  have n45 : w.heap.size + 1 + 1 ≠ w.heap.size + 1 + 1 + 1 := by omega
  have n25 : w.heap.size ≠ w.heap.size + 1 + 1 + 1 := by omega
  have n24 : w.heap.size ≠ w.heap.size + 1 + 1 := by omega
  have n35 : w.heap.size + 1 ≠ w.heap.size + 1 + 1 + 1 := by omega
  have n34 : w.heap.size + 1 ≠ w.heap.size + 1 + 1 := by omega
  have l5 : w.heap.size ≤ w.heap.size + 1 + 1 + 1 := by omega
  have l4 : w.heap.size ≤ w.heap.size + 1 + 1 := by omega
  have l3 : w.heap.size ≤ w.heap.size + 1 := by omega
  generalize w.heap.size + 1 + 1 + 1 = g5 at *
  generalize w.heap.size + 1 + 1 = g4 at *
  generalize w.heap.size + 1 = g3 at *
  generalize hg2 : w.heap.size = g2 at *
  refine (length_any a (unhide ha') _).mono ?_
  rintro e w1 ⟨rfl, hb⟩
  have B2 := B2.up hb; have B3 := B3.up hb; have B4 := B4.up hb; have B5 := B5.up hb; have N := new_trans N hb; clear hb
  go_wp2
  go_loopw [7] (fun i wr => ∃ k : Nat, k ≤ 256 ∧ i = .int .i64 ((k : Int) - 1) ∧ Blk wr g2 27 (uc a) ∧ Blk wr g3 27 (uc b) ∧ Blk wr g4 27 (uc (quok a b k)) ∧ Blk wr g5 27 (uc (restk a b k)) ∧ New w wr) (fun i _ => (intOf i + 1).toNat)
  case atStart =>
    obtain ⟨s1, s2⟩ := start_k a b (blen a) (unhide L1)
    exact ⟨blen a, unhide L0, by simp, B2, B3, by rw [s2]; exact B4, by rw [s1]; exact B5, by (repeat' (first | with_reducible exact new_refl _ | with_reducible assumption | with_reducible refine new_drewN ?_ _ | with_reducible refine new_drew ?_ | with_reducible refine new_alloc ?_ _ | with_reducible refine new_set ?_ ?_ _ | with_reducible refine new_freeze ?_ ?_ _ | with_reducible refine new_trans ?_ (by assumption) | (simp; done) | (simp; omega)))⟩
  case round =>
    obtain ⟨k, hk, rfl, B2, B3, B4, B5, N⟩ := hrel
    cases k with
    | zero =>
      go_wp2
      obtain ⟨z1, z2⟩ := end_k a b
      obtain ⟨Q, eQ⟩ : ∃ Q, a / b = Q := ⟨_, rfl⟩
      obtain ⟨R, eR⟩ : ∃ R, a % b = R := ⟨_, rfl⟩
      rw [z1, eR] at B5; rw [z2, eQ] at B4
      have eQ := hide eQ; have eR := hide eR
      refine region_set (by kernel_rfl) [.inl (u Q), .inl (u R), .inr (.inr (0, uc Q)), .inr (.inr (1, uc R)), .inl (.int .i64 0)] [g4, g5] (by simp [n45]) rfl (by kernel_rfl) rfl ?_ ?_
      · refine ⟨?_, ?_, ?_, ?_, ?_, trivial⟩
        · exact set_read _ fun ρ w' hk hI hc h0 hp => by have h : ρ (.tmp 4) = .pointer (some ⟨g4, 0, none⟩) := h0 4 rfl; have c := Blk.cell (hI 0 g4 2 _ rfl rfl rfl _ _ B4); simp [execOp, go_sem, hc, h, c]
        · exact set_read _ fun ρ w' hk hI hc h0 hp => by have h : ρ (.tmp 5) = .pointer (some ⟨g5, 0, none⟩) := h0 5 rfl; have c := Blk.cell (hI 1 g5 3 _ rfl rfl rfl _ _ B5); simp [execOp, go_sem, hc, h, c]
        · exact set_store 27 0 g4 4 56 0 _ _ _ rfl rfl rfl B4 rfl rfl rfl rfl rfl (by kernel_rfl) rfl (by simp [Value.oneCell'])
        · exact set_store 27 1 g5 5 57 1 _ _ _ rfl rfl rfl B5 rfl rfl rfl rfl rfl (by kernel_rfl) rfl (by simp [Value.oneCell'])
        · exact set_val _ fun ρ w' _ hc h0 _ => by simp [execOp, go_sem, hc]
      · intro w' hK hB
        have N := hK.since N (by simp [l4, l5, hg2])
        have c4 := Blk.cell (hB 0 g4 2 _ _ _ rfl rfl B4)
        have c5 := Blk.cell (hB 1 g5 3 _ _ _ rfl rfl B5)
        simp [frame, gives, Act.put]
        go_wp2
        exact bodyPost_ret (v := .tuple #[u Q, u R, .int .i64 0]) (by simp [results, Tryz.results70, go_sem, c4, c5]) rfl ⟨by rw [unhide eQ, unhide eR], N⟩
    | succ j =>
      rw [show ((j + 1 : Nat) : Int) - 1 = j from by omega]
      obtain ⟨q, t, ht, hq, rfl⟩ : ∃ q t, t < 64 ∧ q < 4 ∧ j = 64 * q + t := ⟨j / 64, j % 64, by omega, by omega, by omega⟩
      have hRb := restk_lt a b (64 * q + t + 1) (unhide hb0)
      have hRM := Nat.lt_trans hRb (unhide hb')
      obtain ⟨bit, ebit⟩ : ∃ bit, a / 2 ^ (64 * q + t) % 2 = bit := ⟨_, rfl⟩
      obtain ⟨s0, s1, o, d0, d1, d2, d3, d4, d5, dd⟩ := round_nums bit b _ (by omega) (unhide hb') hRb
      have st1 := step_hi a b (64 * q + t) (unhide hb0); have st2 := step_lo a b (64 * q + t) (unhide hb0)
      rw [ebit] at st1 st2
      have st1 := hide st1; have st2 := hide st2; have ebit := hide ebit
      obtain ⟨fq, fb⟩ := or_bit (a / 2 ^ (64 * q + t + 1) / b) q t ht
      rw [show a / 2 ^ (64 * q + t + 1) / b * 2 ^ (64 * q + t + 1) = quok a b (64 * q + t + 1) from rfl] at fq fb
      have fq := hide fq; have fb := hide fb; have d0 := hide d0
      have d1 := hide d1; have d2 := hide d2; have d3 := hide d3; have hRb := hide hRb; have hRM := hide hRM
      generalize restk a b (64 * q + t + 1) = R at *
      generalize quok a b (64 * q + t + 1) = U at *
      have c2 := B2.cell; have c3 := B3.cell; have c4 := B4.cell; have c5 := B5.cell; have f2 := B2.free; have f3 := B3.free; have f4 := B4.free; have f5 := B5.free
      go_wp2_with fail
      refine (add_is R R s0 o (unhide hRM) (unhide hRM) (unhide d0) (unhide d1) _).mono ?_
      rintro e w2 ⟨rfl, hb⟩
      have B2 := B2.up hb; have B3 := B3.up hb; have B4 := B4.up hb; have B5 := B5.up hb; have N : New w w2 := new_trans (by (repeat' (first | with_reducible exact new_refl _ | with_reducible assumption | with_reducible refine new_drewN ?_ _ | with_reducible refine new_drew ?_ | with_reducible refine new_alloc ?_ _ | with_reducible refine new_set ?_ ?_ _ | with_reducible refine new_freeze ?_ ?_ _ | with_reducible refine new_trans ?_ (by assumption) | (simp; done) | (simp; omega)))) hb; clear hb c2 c3 c4 c5 f2 f3 f4 f5
      have c2 := B2.cell; have c3 := B3.cell; have c4 := B4.cell; have c5 := B5.cell; have f2 := B2.free; have f3 := B3.free; have f4 := B4.free; have f5 := B5.free
      go_wp2
      have B5 : Blk _ g5 27 (uc s0) := B5.set4 (.int .u64 (lim s0 0)) (.int .u64 (lim s0 1)) (.int .u64 (lim s0 2)) (.int .u64 (lim s0 3))
      have B2 := B2.far4 n25 (.int .u64 (lim s0 0)) (.int .u64 (lim s0 1)) (.int .u64 (lim s0 2)) (.int .u64 (lim s0 3))
      have B3 := B3.far4 n35 (.int .u64 (lim s0 0)) (.int .u64 (lim s0 1)) (.int .u64 (lim s0 2)) (.int .u64 (lim s0 3))
      have B4 := B4.far4 n45 (.int .u64 (lim s0 0)) (.int .u64 (lim s0 1)) (.int .u64 (lim s0 2)) (.int .u64 (lim s0 3))
      have N := new_set4 N (g := g5) (hg2 ▸ l5) (.int .u64 (lim s0 0)) (.int .u64 (lim s0 1)) (.int .u64 (lim s0 2)) (.int .u64 (lim s0 3))
      clear c2 c3 c4 c5 f2 f3 f4 f5
      generalize World.setCell _ _ _ = w3 at *
      have d4' := unhide d4; have d5' := unhide d5
      have hj : 64 * q + t < 256 := by omega
      refine region_set (by kernel_rfl) [.inl (.pointer (some ⟨g5, 0, none⟩)), .inl (.int .u64 (lim s0 0)), .inl (u a), .inl (.int .i64 (64 * q + t)), .inl (.int .u64 (bit : Int)), .inl (.int .u64 (lim s1 0)), .inl (.pointer (some ⟨g5, 0, none⟩)), .inr (.inr (0, (uc s0).setIfInBounds 0 (.int .u64 (lim s1 0))))] [g5] (by simp) rfl (by kernel_rfl) rfl ?_ ?_
      · refine ⟨?_, ?_, ?_, ?_, ?_, ?_, ?_, ?_, trivial⟩
        · exact set_val _ fun ρ w' _ hc h0 _ => by have h : ρ (.tmp 5) = .pointer (some ⟨g5, 0, none⟩) := h0 5 rfl; simp [execOp, go_sem, hc, h]
        · exact set_read _ fun ρ w' hk hI hc h0 hp => by have h := hp 0 _ _ rfl rfl rfl; have c := Blk.cell (hI 0 g5 7 _ rfl rfl rfl _ _ B5); simp [execOp, go_sem, h, c]
        · exact set_val _ fun ρ w' hk hc h0 hp => by have h : ρ (.tmp 2) = .pointer (some ⟨g2, 0, none⟩) := h0 2 rfl; have c := Blk.cell ((hk.block g2 B2.lt (by simp [n25])).trans B2); simp [execOp, go_sem, h, c]
        · exact set_val _ fun ρ w' hk hc h0 hp => by have h : ρ (.tmp 7) = .int .i64 (64 * q + t) := h0 7 rfl; simp [execOp, go_sem, h]
        · exact set_call 98 _ _ _ _ _ rfl Tryz.func98 (by kernel_rfl) (by kernel_rfl) (fun a _ hp => by have h := hp 2 _ _ rfl rfl rfl; have h' := hp 3 _ _ rfl rfl rfl; simp [h, h']) (bit_to a (64 * q + t) bit hj (unhide ebit))
        · exact set_val _ fun ρ w' hk hc h0 hp => by have h := hp 1 _ _ rfl rfl rfl; have h' := hp 4 _ _ rfl rfl rfl; simp [execOp, go_sem, h, h', d4']
        · exact set_val _ fun ρ w' _ hc h0 _ => by have h : ρ (.tmp 5) = .pointer (some ⟨g5, 0, none⟩) := h0 5 rfl; simp [execOp, go_sem, hc, h]
        · exact set_cell 25 0 g5 0 33 32 6 5 _ _ _ rfl rfl rfl B5 (by simp [uc]) rfl rfl rfl rfl rfl rfl rfl (fun w u h1 h2 => by simp [go_sem, h1, h2])
      intro w4 hK hB
      have B2 : Blk w4 g2 27 (uc a) := (hK.block g2 B2.lt (by simp [n25])).trans B2
      have B3 : Blk w4 g3 27 (uc b) := (hK.block g3 B3.lt (by simp [n35])).trans B3
      have B4 : Blk w4 g4 27 (uc U) := (hK.block g4 B4.lt (by simp [n45])).trans B4
      have B5' := hB 0 g5 7 _ _ _ rfl rfl B5
      rw [uc_set s0 s1 0 (by decide) d5'] at B5'
      have B5 : Blk w4 g5 27 (uc s1) := B5'
      have N := hK.since N (by simp [hg2, l5])
      clear hK hB B5' d4' d5'
      simp [frame, gives, Act.put]
      have c2 := B2.cell; have c3 := B3.cell; have c4 := B4.cell; have c5 := B5.cell; have f2 := B2.free; have f3 := B3.free; have f4 := B4.free; have f5 := B5.free
      rcases dd with ⟨rfl, hge, hsub⟩ | ⟨rfl, hge, hsub, c, hc, hc0⟩ | ⟨rfl, hlt, rfl, hc⟩
      rotate_left 2
      · obtain ⟨r1, r2⟩ := unhide st2 hlt
        have hc := hide hc; have hlt := hide hlt; have r1 := hide r1; have r2 := hide r2
        generalize 2 * R + bit = s1 at *
        go_wp2_with fail
        refine (cmp_is s1 b (-1) (unhide d3) (unhide hb') (unhide hc) _).mono ?_
        rintro e w5 ⟨rfl, hb⟩
        have B2 := B2.up hb; have B3 := B3.up hb; have B4 := B4.up hb; have B5 := B5.up hb; have N := new_trans N hb; clear hb c2 c3 c4 c5 f2 f3 f4 f5
        go_wp2
        exact ⟨⟨64 * q + t, by omega, by go_num, B2, B3, by rw [unhide r2]; exact B4, by rw [unhide r1]; exact B5, N⟩, by simp [intOf]; omega⟩
      · obtain ⟨r1, r2⟩ := unhide st1 hge
        have hge := hide hge; have r1 := hide r1; have r2 := hide r2; have hsub := hide hsub
        generalize 2 * R + bit - b = d at *
        go_wp2_with fail
        obtain ⟨sb, hsb⟩ : ∃ sb, decide (s1 < b) = sb := ⟨_, rfl⟩
        have hsb := hide hsb
        refine (sub_is s1 b d sb (unhide d3) (unhide hb') (unhide hsub) (unhide hsb) _).mono ?_
        rintro e w6 ⟨rfl, hb⟩
        have B2 := B2.up hb; have B3 := B3.up hb; have B4 := B4.up hb; have B5 := B5.up hb; have N := new_trans N hb; clear hb c2 c3 c4 c5 f2 f3 f4 f5
        have c2 := B2.cell; have c3 := B3.cell; have c4 := B4.cell; have c5 := B5.cell; have f2 := B2.free; have f3 := B3.free; have f4 := B4.free; have f5 := B5.free
        go_wp2
        have B5 : Blk _ g5 27 (uc d) := B5.set4 (.int .u64 (lim d 0)) (.int .u64 (lim d 1)) (.int .u64 (lim d 2)) (.int .u64 (lim d 3))
        have B2 := B2.far4 n25 (.int .u64 (lim d 0)) (.int .u64 (lim d 1)) (.int .u64 (lim d 2)) (.int .u64 (lim d 3))
        have B3 := B3.far4 n35 (.int .u64 (lim d 0)) (.int .u64 (lim d 1)) (.int .u64 (lim d 2)) (.int .u64 (lim d 3))
        have B4 := B4.far4 n45 (.int .u64 (lim d 0)) (.int .u64 (lim d 1)) (.int .u64 (lim d 2)) (.int .u64 (lim d 3))
        have N := new_set4 N (g := g5) (hg2 ▸ l5) (.int .u64 (lim d 0)) (.int .u64 (lim d 1)) (.int .u64 (lim d 2)) (.int .u64 (lim d 3))
        clear c2 c3 c4 c5 f2 f3 f4 f5
        generalize World.setCell _ _ _ = w7 at *
        obtain ⟨U', eU⟩ : ∃ U', U + 2 ^ (64 * q + t) = U' := ⟨_, rfl⟩
        obtain ⟨v, ev⟩ : ∃ v : Int, ((2 ^ t : Nat) : Int) = v := ⟨_, rfl⟩
        have fq := unhide fq; have fb := unhide fb
        rw [eU] at fq fb; rw [ev] at fb
        have hv := shl_one t ht
        rw [ev] at hv
        have e0 : 0 ≤ (64 * q + t : Int) := by omega
        have e1 : ((64 * q + t : Int)).tdiv 64 = q := by rw [Int.tdiv_eq_ediv_of_nonneg e0]; omega
        have e2 : ((64 * q + t : Int)).tmod 64 = t := by rw [Int.tmod_eq_emod_of_nonneg e0]; omega
        have wq : IntKind.i64.wrap (q : Int) = q := by rw [IntKind.wrap_i64]; omega
        have wt : IntKind.i64.wrap (t : Int) = t := by rw [IntKind.wrap_i64]; omega
        refine region_set (by kernel_rfl) [.inl (.int .i64 (64 * q + t)), .inl (.int .i64 q), .inl (.pointer (some ⟨g4, q, none⟩)), .inl (.int .u64 (lim U q)), .inl (.int .i64 (64 * q + t)), .inl (.int .i64 t), .inl (.int .u64 v), .inl (.int .u64 (lim U' q)), .inl (.pointer (some ⟨g4, q, none⟩)), .inr (.inr (0, (uc U).setIfInBounds q (.int .u64 (lim U' q))))] [g4] (by simp) rfl (by kernel_rfl) rfl ?_ ?_
        · refine ⟨?_, ?_, ?_, ?_, ?_, ?_, ?_, ?_, ?_, ?_, trivial⟩
          · exact set_val _ fun ρ w' hk hc h0 hp => by have h : ρ (.tmp 7) = .int .i64 (64 * q + t) := h0 7 rfl; simp [execOp, go_sem, h]
          · exact set_val _ fun ρ w' hk hc h0 hp => by have h := hp 0 _ _ rfl rfl rfl; simp [execOp, go_sem, h, hc, e1, wq]
          · exact set_val _ fun ρ w' hk hc h0 hp => by have h : ρ (.tmp 4) = .pointer (some ⟨g4, 0, none⟩) := h0 4 rfl; have h' := hp 1 _ _ rfl rfl rfl; simp [execOp, go_sem, h, h']; exact fun hh => absurd hh (by omega)
          · exact set_read _ fun ρ w' hk hI hc h0 hp => by have h := hp 2 _ _ rfl rfl rfl; have c := Blk.cell (hI 0 g4 9 _ rfl rfl rfl _ _ B4); simp [execOp, go_sem, h, c, uc_get _ _ hq]
          · exact set_val _ fun ρ w' hk hc h0 hp => by have h : ρ (.tmp 7) = .int .i64 (64 * q + t) := h0 7 rfl; simp [execOp, go_sem, h]
          · exact set_val _ fun ρ w' hk hc h0 hp => by have h := hp 4 _ _ rfl rfl rfl; simp [execOp, go_sem, h, hc, e2, wt]
          · exact set_val _ fun ρ w' hk hc h0 hp => by have h := hp 5 _ _ rfl rfl rfl; simp [execOp, go_sem, h, hc, hv, ht]
          · exact set_val _ fun ρ w' hk hc h0 hp => by have h := hp 3 _ _ rfl rfl rfl; have h' := hp 6 _ _ rfl rfl rfl; simp [execOp, go_sem, h, h', fb]
          · exact set_val _ fun ρ w' hk hc h0 hp => by have h : ρ (.tmp 4) = .pointer (some ⟨g4, 0, none⟩) := h0 4 rfl; have h' := hp 1 _ _ rfl rfl rfl; simp [execOp, go_sem, h, h']; exact fun hh => absurd hh (by omega)
          · exact set_cell 25 0 g4 q 55 54 8 7 _ _ _ rfl rfl rfl B4 (by simp [uc, hq]) rfl rfl rfl rfl rfl rfl rfl (fun w u h1 h2 => by simp [go_sem, h1, h2])
        intro w8 hK hB
        have B2 : Blk w8 g2 27 (uc a) := (hK.block g2 B2.lt (by simp [n24])).trans B2
        have B3 : Blk w8 g3 27 (uc b) := (hK.block g3 B3.lt (by simp [n34])).trans B3
        have B5 : Blk w8 g5 27 (uc d) := (hK.block g5 B5.lt (by simp [Ne.symm n45])).trans B5
        have B4' := hB 0 g4 9 _ _ _ rfl rfl B4
        rw [uc_set U U' q hq (fun m hm _ => fq m hm)] at B4'
        have B4 : Blk w8 g4 27 (uc U') := B4'
        have N := hK.since N (by simp [hg2, l4])
        clear hK hB B4'
        simp [frame, gives, Act.put]
        go_wp2
        exact ⟨⟨64 * q + t, by omega, by go_num, B2, B3, by rw [unhide r2, eU]; exact B4, by rw [unhide r1]; exact B5, N⟩, by simp [intOf]; omega⟩
      · obtain ⟨r1, r2⟩ := unhide st1 hge
        have hge := hide hge; have r1 := hide r1; have r2 := hide r2; have hsub := hide hsub; have hc := hide hc
        generalize 2 * R + bit - b = d at *
        go_wp2_with fail
        refine (cmp_is s1 b c (unhide d3) (unhide hb') (unhide hc) _).mono ?_
        rintro e w5 ⟨rfl, hb⟩
        have B2 := B2.up hb; have B3 := B3.up hb; have B4 := B4.up hb; have B5 := B5.up hb; have N := new_trans N hb; clear hb c2 c3 c4 c5 f2 f3 f4 f5
        have c2 := B2.cell; have c3 := B3.cell; have c4 := B4.cell; have c5 := B5.cell; have f2 := B2.free; have f3 := B3.free; have f4 := B4.free; have f5 := B5.free
        go_wp2_with fail
        obtain ⟨sb, hsb⟩ : ∃ sb, decide (s1 < b) = sb := ⟨_, rfl⟩
        have hsb := hide hsb
        refine (sub_is s1 b d sb (unhide d3) (unhide hb') (unhide hsub) (unhide hsb) _).mono ?_
        rintro e w6 ⟨rfl, hb⟩
        have B2 := B2.up hb; have B3 := B3.up hb; have B4 := B4.up hb; have B5 := B5.up hb; have N := new_trans N hb; clear hb c2 c3 c4 c5 f2 f3 f4 f5
        have c2 := B2.cell; have c3 := B3.cell; have c4 := B4.cell; have c5 := B5.cell; have f2 := B2.free; have f3 := B3.free; have f4 := B4.free; have f5 := B5.free
        go_wp2
        have B5 : Blk _ g5 27 (uc d) := B5.set4 (.int .u64 (lim d 0)) (.int .u64 (lim d 1)) (.int .u64 (lim d 2)) (.int .u64 (lim d 3))
        have B2 := B2.far4 n25 (.int .u64 (lim d 0)) (.int .u64 (lim d 1)) (.int .u64 (lim d 2)) (.int .u64 (lim d 3))
        have B3 := B3.far4 n35 (.int .u64 (lim d 0)) (.int .u64 (lim d 1)) (.int .u64 (lim d 2)) (.int .u64 (lim d 3))
        have B4 := B4.far4 n45 (.int .u64 (lim d 0)) (.int .u64 (lim d 1)) (.int .u64 (lim d 2)) (.int .u64 (lim d 3))
        have N := new_set4 N (g := g5) (hg2 ▸ l5) (.int .u64 (lim d 0)) (.int .u64 (lim d 1)) (.int .u64 (lim d 2)) (.int .u64 (lim d 3))
        clear c2 c3 c4 c5 f2 f3 f4 f5
        generalize World.setCell _ _ _ = w7 at *
        obtain ⟨U', eU⟩ : ∃ U', U + 2 ^ (64 * q + t) = U' := ⟨_, rfl⟩
        obtain ⟨v, ev⟩ : ∃ v : Int, ((2 ^ t : Nat) : Int) = v := ⟨_, rfl⟩
        have fq := unhide fq; have fb := unhide fb
        rw [eU] at fq fb; rw [ev] at fb
        have hv := shl_one t ht
        rw [ev] at hv
        have e0 : 0 ≤ (64 * q + t : Int) := by omega
        have e1 : ((64 * q + t : Int)).tdiv 64 = q := by rw [Int.tdiv_eq_ediv_of_nonneg e0]; omega
        have e2 : ((64 * q + t : Int)).tmod 64 = t := by rw [Int.tmod_eq_emod_of_nonneg e0]; omega
        have wq : IntKind.i64.wrap (q : Int) = q := by rw [IntKind.wrap_i64]; omega
        have wt : IntKind.i64.wrap (t : Int) = t := by rw [IntKind.wrap_i64]; omega
        refine region_set (by kernel_rfl) [.inl (.int .i64 (64 * q + t)), .inl (.int .i64 q), .inl (.pointer (some ⟨g4, q, none⟩)), .inl (.int .u64 (lim U q)), .inl (.int .i64 (64 * q + t)), .inl (.int .i64 t), .inl (.int .u64 v), .inl (.int .u64 (lim U' q)), .inl (.pointer (some ⟨g4, q, none⟩)), .inr (.inr (0, (uc U).setIfInBounds q (.int .u64 (lim U' q))))] [g4] (by simp) rfl (by kernel_rfl) rfl ?_ ?_
        · refine ⟨?_, ?_, ?_, ?_, ?_, ?_, ?_, ?_, ?_, ?_, trivial⟩
          · exact set_val _ fun ρ w' hk hc h0 hp => by have h : ρ (.tmp 7) = .int .i64 (64 * q + t) := h0 7 rfl; simp [execOp, go_sem, h]
          · exact set_val _ fun ρ w' hk hc h0 hp => by have h := hp 0 _ _ rfl rfl rfl; simp [execOp, go_sem, h, hc, e1, wq]
          · exact set_val _ fun ρ w' hk hc h0 hp => by have h : ρ (.tmp 4) = .pointer (some ⟨g4, 0, none⟩) := h0 4 rfl; have h' := hp 1 _ _ rfl rfl rfl; simp [execOp, go_sem, h, h']; exact fun hh => absurd hh (by omega)
          · exact set_read _ fun ρ w' hk hI hc h0 hp => by have h := hp 2 _ _ rfl rfl rfl; have c := Blk.cell (hI 0 g4 9 _ rfl rfl rfl _ _ B4); simp [execOp, go_sem, h, c, uc_get _ _ hq]
          · exact set_val _ fun ρ w' hk hc h0 hp => by have h : ρ (.tmp 7) = .int .i64 (64 * q + t) := h0 7 rfl; simp [execOp, go_sem, h]
          · exact set_val _ fun ρ w' hk hc h0 hp => by have h := hp 4 _ _ rfl rfl rfl; simp [execOp, go_sem, h, hc, e2, wt]
          · exact set_val _ fun ρ w' hk hc h0 hp => by have h := hp 5 _ _ rfl rfl rfl; simp [execOp, go_sem, h, hc, hv, ht]
          · exact set_val _ fun ρ w' hk hc h0 hp => by have h := hp 3 _ _ rfl rfl rfl; have h' := hp 6 _ _ rfl rfl rfl; simp [execOp, go_sem, h, h', fb]
          · exact set_val _ fun ρ w' hk hc h0 hp => by have h : ρ (.tmp 4) = .pointer (some ⟨g4, 0, none⟩) := h0 4 rfl; have h' := hp 1 _ _ rfl rfl rfl; simp [execOp, go_sem, h, h']; exact fun hh => absurd hh (by omega)
          · exact set_cell 25 0 g4 q 55 54 8 7 _ _ _ rfl rfl rfl B4 (by simp [uc, hq]) rfl rfl rfl rfl rfl rfl rfl (fun w u h1 h2 => by simp [go_sem, h1, h2])
        intro w8 hK hB
        have B2 : Blk w8 g2 27 (uc a) := (hK.block g2 B2.lt (by simp [n24])).trans B2
        have B3 : Blk w8 g3 27 (uc b) := (hK.block g3 B3.lt (by simp [n34])).trans B3
        have B5 : Blk w8 g5 27 (uc d) := (hK.block g5 B5.lt (by simp [Ne.symm n45])).trans B5
        have B4' := hB 0 g4 9 _ _ _ rfl rfl B4
        rw [uc_set U U' q hq (fun m hm _ => fq m hm)] at B4'
        have B4 : Blk w8 g4 27 (uc U') := B4'
        have N := hK.since N (by simp [hg2, l4])
        clear hK hB B4'
        simp [frame, gives, Act.put]
        go_wp2
        exact ⟨⟨64 * q + t, by omega, by go_num, B2, B3, by rw [unhide r2, eU]; exact B4, by rw [unhide r1]; exact B5, N⟩, by simp [intOf]; omega⟩
end Go.Proofs.YtcfefmbbbfdppaaGreatDoor
namespace Go.Proofs.YtcfefmbbbfdppaaGreatDoor
open Go.RowKit
set_option linter.unusedVariables false
theorem picked_anyB (n m : Int) (hm : 0 < m) (hm' : m ≤ 4611686018427387904) (w : World) :
    Calls Tryz.prog 10 #[.int .i64 n, .int .i64 m] w fun e w' => e = .returned (.int .i64 (n % m)) ∧ w = w' := by
  have h1 := hide (tmod_emod n m hm)
  have h2 := hide (Int.emod_nonneg n (by omega : m ≠ 0))
  have h3 := hide (Int.emod_lt_of_pos n hm)
  go_enter Tryz.func10, Tryz.ntmps10
  go_wp2
  · have h : n.tmod m < 0 := by assumption
    go_ret
    refine ⟨ret_int ?_, rfl⟩
    have h1 := h1.out; have h2 := h2.out; have h3 := h3.out
    rw [if_pos h] at h1
    rw [wrap64, ← h1]; omega
  · have h : 0 ≤ n.tmod m := by assumption
    go_ret
    refine ⟨ret_int ?_, rfl⟩
    have h1 := h1.out
    rw [if_neg (by omega)] at h1
    exact h1.symm
end Go.Proofs.YtcfefmbbbfdppaaGreatDoor
namespace Go.Proofs.YtcfefmbbbfdppaaGreatDoor
open Go.RowKit
set_option linter.unusedVariables false
set_option maxRecDepth 100000
@[reducible] def raw (k a b : Int) (s : ByteArray) : Array Value := #[.int .i64 k, .int .i64 a, .int .i64 b, .string s]
theorem zero_u (w : World) : (zeroValue 27).run Tryz.prog w = .ok (.agg z4) w := by kernel_rfl
theorem size_u : (Tryz.prog.info? 27).map (·.size) = some 4 := by kernel_rfl
end Go.Proofs.YtcfefmbbbfdppaaGreatDoor
