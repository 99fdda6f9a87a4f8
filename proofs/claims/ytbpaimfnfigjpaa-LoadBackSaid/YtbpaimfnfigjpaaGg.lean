/- The laws' cut of a text. No conditions. -/
import Derived.Test.YtbpaimfnfigjpaaGf
import Derived.Test.YtbpaimfnfigjpaaFlat
import Derived.Deep.Slices
import Derived.Test.YtbpaimfnfigjpaaGa
import Derived.Test.YtbpaimfnfigjpaaDCode
import Derived.Test.YtbpaimfnfigjpaaDMore
import Derived.Test.YtbpaimfnfigjpaaDInst
import Derived.Test.YtbpaimfnfigjpaaDK2
import Derived.Test.YtbpaimfnfigjpaaDMs
import Derived.Test.YtbpaimfnfigjpaaGd
import Derived.Test.YtbpaimfnfigjpaaEq
import Derived.Test.YtbpaimfnfigjpaaDNum
import Derived.Test.YtbpaimfnfigjpaaBytes
import Derived.Test.YtbpaimfnfigjpaaGb
namespace Go.Proofs.Ytbpaimfnfigjpaa
open Go.ChangeShapes Go.WideShapes Go.RowKit Go.Joins Go.Deep
set_option linter.unusedVariables false

/-- a raw thing's data -/
structure RawT where
  k : Int
  a : Int
  b : Int
  s : ByteArray
def RawT.cells (r : RawT) : List D := [.int .i64 r.k, .int .i64 r.a, .int .i64 r.b, .str r.s]
def RawT.ok (r : RawT) : Prop := (Lit.int .i64 r.k).wf = true ∧ (Lit.int .i64 r.a).wf = true ∧ (Lit.int .i64 r.b).wf = true ∧ r.s.size ≤ maxLen
def RawT.vals (r : RawT) : List Value := [.int .i64 r.k, .int .i64 r.a, .int .i64 r.b, .string r.s]
def rws (l : List RawT) : List D := l.flatMap RawT.cells
theorem rws_len (l : List RawT) : (rws l).length = l.length * 4 := fl_len (f := RawT.cells) (s := 4) (fun _ => rfl) l

section
variable {H : Type} {enc : TypeId × Value → H}
theorem open_raws {w : World} {base : Nat} {spare : Nat → Bool} {held : Bool} {r : Reach} {b0 : Nat} {v : Value} {d : DataW H} {p : List MemPlace} (hv : Value.okWide Try.prog w r b0 22 v) (h : DataW.Trod enc Try.prog w base spare held 22 v d p) :
    ∃ l : List RawT, (∀ x ∈ l, x.ok) ∧ Rep (bare (allhw w)) w (.slice .frozen l.length (rws l)) v := by
  simp only [Value.okWide, Try.underlying22, Cell.okWide, Cell.ok] at hv
  obtain ⟨fuel, hf⟩ := h
  cases v <;> first | exact False.elim hv | skip
  rename_i ao len cap
  cases ao with
  | none =>
    cases len <;> cases cap <;> first | exact False.elim hv | skip
    exact ⟨[], fun x hx => by simp at hx, .nil _⟩
  | some ad =>
    obtain ⟨hle, _, _, hsp, row, cells, hsh, hli⟩ := hv
    rcases open_slice Try.underlying22 hf with ⟨h0, _⟩ | ⟨a', len', cap', m, n, Df, Pl, hcs, hb, hl, hmx, hm, _, hx⟩
    · simp [Value.cells] at h0
    · simp only [Value.cells, List.cons.injEq, Value.slice.injEq, Option.some.injEq, and_true] at hcs
      obtain ⟨rfl, rfl, rfl⟩ := hcs
      obtain ⟨b, o, sp⟩ := ad
      simp only at hsp
      subst hsp
      have hC : (Try.prog).cellsOf 24 = 4 := by kernel_rfl
      rw [hC] at hx
      -- the block
      obtain ⟨vs, fr, hblk, hcells⟩ : ∃ vs fr, w.heap[b]? = some (.cells vs row fr) ∧ vs.size = cells := by
        unfold World.shape? at hsh
        split at hsh
        · rename_i c el fr hh
          simp only [Option.some.injEq, Prod.mk.injEq] at hsh
          obtain ⟨rfl, rfl⟩ := hsh
          exact ⟨c, fr, hh, rfl⟩
        · cases hsh
      have hmem : b < w.heap.size := (Array.getElem?_eq_some_iff.1 hblk).1
      have hall : allhw w b = vs.size := by unfold allhw; rw [hblk]
      have ho : o ≤ vs.size := by
        have : o ≤ _ := liesAt_le hli
        have h2 := Nat.div_mul_le_self cells ((Try.prog).cellsOf row)
        omega
      have hcl : ∀ i, w.cell? ⟨b, i, none⟩ = vs[i]? := fun i => cell_of_row w _ _ vs row fr hblk
      have hlm : len ≤ m := by rw [hm]; split <;> omega
      have hel : ∀ i, ∃ x : RawT, i < len → x.ok ∧ ∀ j, j < 4 → vs[o + i * 4 + j]? = x.vals[j]? := by
        intro i
        by_cases hi : i < len
        · obtain ⟨cs', h1, h2⟩ := hx i (by omega)
          obtain ⟨_, hlen, hat⟩ := World.cells?_some h1
          match cs', hlen with
          | [c0, c1, c2, c3], _ =>
            obtain ⟨y0, y1, y2, y3, nn, _, _, hy0, hy1, hy2, hy3⟩ := trod_struct4 Try.underlying24 h2
            have k1 : (Try.prog).cellsOf 3 = 1 := by kernel_rfl
            have k2 : (Try.prog).cellsOf 9 = 1 := by kernel_rfl
            simp only [k1, k2] at hy0 hy1 hy2 hy3
            obtain ⟨k, e0, _, wk⟩ := DataW.trod_int Try.underlying3 hy0
            obtain ⟨a, e1, _, wa⟩ := DataW.trod_int Try.underlying3 hy1
            obtain ⟨b, e2, _, wb⟩ := DataW.trod_int Try.underlying3 hy2
            obtain ⟨s, e3, _, ws⟩ := DataW.trod_string Try.underlying9 hy3
            simp at e0 e1 e2 e3
            subst e0 e1 e2 e3
            refine ⟨⟨k, a, b, s⟩, fun _ => ⟨⟨wk, wa, wb, ws⟩, fun j hj => ?_⟩⟩
            have := hat j hj
            rw [show ((⟨_, o, none⟩ : Addr).add (i * 4)).add j = ⟨_, o + i * 4 + j, none⟩ from by rw [add_off, add_off], hcl] at this
            exact this
        · exact ⟨⟨0, 0, 0, ⟨#[]⟩⟩, fun h => absurd h hi⟩
      let R : Nat → RawT := fun i => Classical.choose (hel i)
      have hR : ∀ i, i < len → (R i).ok ∧ ∀ j, j < 4 → vs[o + i * 4 + j]? = (R i).vals[j]? := fun i => Classical.choose_spec (hel i)
      refine ⟨(List.range len).map R, fun x hx => ?_, ?_⟩
      · obtain ⟨i, hi, rfl⟩ := List.mem_map.1 hx
        exact (hR i (List.mem_range.1 hi)).1
      · have hlen : ((List.range len).map R).length = len := by simp
        rw [hlen]
        have hrl := rws_len ((List.range len).map R)
        rw [hlen] at hrl
        have hget : ∀ i, i < len * 4 → (rws ((List.range len).map R))[i]? = ((R (i / 4)).cells)[i % 4]? := fun i hi => by
          unfold rws
          rw [fl_get (f := RawT.cells) (s := 4) (by decide) (fun _ => rfl)]
          have h1 : i / 4 < len := by omega
          simp [h1]
        have hval : ∀ i, i < len * 4 → vs[o + i]? = ((R (i / 4)).vals)[i % 4]? := fun i hi => by
          have := (hR (i / 4) (by omega)).2 (i % 4) (Nat.mod_lt _ (by decide))
          rw [show o + i / 4 * 4 + i % 4 = o + i from by omega] at this
          exact this
        have hsz : o + len * 4 ≤ vs.size := by
          rcases Nat.eq_zero_or_pos len with h0 | h0
          · subst h0; omega
          · have := hval (len * 4 - 1) (by omega)
            have h4 : (len * 4 - 1) % 4 < 4 := Nat.mod_lt _ (by decide)
            have hlt : o + (len * 4 - 1) < vs.size := by
              rcases Nat.lt_or_ge (o + (len * 4 - 1)) vs.size with h | h
              · exact h
              · rw [Array.getElem?_eq_none h, eq_comm, List.getElem?_eq_none_iff] at this
                simp [RawT.vals] at this; omega
            omega
        refine .slice .frozen len _ b o cap (vs.extract o (o + len * 4)) (by rw [hrl]; simp; omega) (fun d hd => ?_) (fun i d v hd hv => ?_) (by show _ ≤ allhw w b; rw [hrl, hall]; exact hsz) (fun i hi => ?_) hmem hle trivial
        · obtain ⟨x, _, hx2⟩ := List.mem_flatMap.1 hd
          simp only [RawT.cells, List.mem_cons, List.not_mem_nil, or_false] at hx2
          rcases hx2 with rfl | rfl | rfl | rfl <;> exact ⟨rfl, rfl⟩
        · have hi : i < len * 4 := by rw [← hrl]; exact (List.getElem?_eq_some_iff.1 hd).1
          rw [hget i hi] at hd
          rw [Array.getElem?_extract, if_pos (by omega), hval i hi] at hv
          have h4 : i % 4 < 4 := Nat.mod_lt _ (by decide)
          generalize i % 4 = q at hd hv h4
          obtain rfl | rfl | rfl | rfl : q = 0 ∨ q = 1 ∨ q = 2 ∨ q = 3 := by omega
          all_goals
            simp [RawT.cells] at hd
            simp [RawT.vals] at hv
            subst hd; subst hv
            first | exact .int _ _ | exact .str _
        · rw [hrl] at hi
          rw [hcl, Array.getElem?_extract, if_pos (by omega)]
end

end Go.Proofs.Ytbpaimfnfigjpaa

namespace Go.Proofs.Ytbpaimfnfigjpaa
open Go.RowKit
set_option linter.unusedVariables false

theorem picked_any (n m : Int) (hm : 0 < m) (hm' : m ≤ 4611686018427387904) (w : World) :
    Calls Try.prog 10 #[.int .i64 n, .int .i64 m] w fun e w' => e = .returned (.int .i64 (n % m)) ∧ w = w' := by
  have h1 := hide (tmod_emod n m hm)
  have h2 := hide (Int.emod_nonneg n (by omega : m ≠ 0))
  have h3 := hide (Int.emod_lt_of_pos n hm)
  go_enter Try.func10, Try.ntmps10
  go_wp2
  · have h : n.tmod m < 0 := by assumption
    go_ret
    refine ⟨ret_int ?_, rfl⟩
    have h1 := h1.out; have h2 := h2.out; have h3 := h3.out
    rw [if_pos h] at h1
    rw [wrap64, ← h1]; omega
  · have h : 0 ≤ n.tmod m := by assumption
    go_ret
    refine ⟨ret_int ?_, rfl⟩
    have h1 := h1.out
    rw [if_neg (by omega)] at h1
    exact h1.symm
theorem picked_q (n m : Int) (hm : 0 < m) (hm' : m ≤ 4611686018427387904) (w : World) :
    Calls Try.prog 10 #[.int .i64 n, .int .i64 m] w fun e w' => e = .returned (.int .i64 (n % m)) ∧ w' = w := (picked_any n m hm hm' w).mono fun _ _ h => ⟨h.1, h.2.symm⟩

end Go.Proofs.Ytbpaimfnfigjpaa

namespace Go.Proofs.Ytbpaimfnfigjpaa
open Go.RowKit
set_option linter.unusedVariables false
theorem p_picked (n m q : Int) (hm : 0 < m) (hm' : m ≤ 4611686018427387904) (hq : n % m = q) : Pur Try.prog 10 [.int .i64 n, .int .i64 m] (.int .i64 q) :=
  pur_of_calls (vs := [.int .i64 n, .int .i64 m]) rfl rfl rfl fun w => (picked_q n m hm hm' w).mono fun e w' h => by
    obtain ⟨h1, h2⟩ := h
    subst h2
    exact ⟨by rw [h1, hq], new_refl _⟩
end Go.Proofs.Ytbpaimfnfigjpaa

namespace Go.Proofs.Ytbpaimfnfigjpaa
open Go.RowKit Go.Lib
set_option linter.unusedVariables false
set_option maxRecDepth 100000

theorem some_ok (l : List RawT) (m : Nat) (hm : m ≤ 1000) : Pur Try.prog 18 [.slice .frozen l.length (rws l), .int .i64 m] (.slice .frozen (l.take m).length (rws (l.take m))) := by
  have hl := rws_len l
  have h1 : min (l.length : Int) (m : Int) = ((l.take m).length : Int) := by rw [List.length_take]; omega
  have h2 : (((l.take m).length : Int) - 0).toNat = (l.take m).length := by omega
  have h3 : ((rws l).drop ((0 : Int).toNat * 4)).take ((l.take m).length * 4) = rws (l.take m) := by
    show (rws l).take _ = _
    unfold rws
    rw [fl_take (f := RawT.cells) (s := 4) (fun _ => rfl), List.length_take]
    congr 1
    rcases Nat.le_total m l.length with h | h
    · rw [Nat.min_eq_left h]
    · rw [Nat.min_eq_right h, List.take_length, List.take_of_length_le h]
  have h4 : (l.take m).length ≤ l.length := by rw [List.length_take]; omega
  generalize l.take m = l' at *
  refine pur_intro Try.func18 rfl Try.ntmps18 rfl (by first | rfl | assumption | exact bs_cl _) fun B => ?_
  repeat (first | with_reducible (first | refine W_seq ?_ | refine q_then ?_ | refine q_thenr ?_ | refine q_thenx ?_ | refine W_block ?_ | refine q_block ?_ | refine q_blockr ?_ | refine q_blockx ?_ | refine W_ret ?_ | refine W_skip ?_ | refine W_label ?_ | refine W_exit ?_ | refine W_scope ?_ | refine q_scope ?_ | refine q_scoper ?_ | refine q_scopex ?_) | (with_reducible refine R_nil ?_; try dsimp only [slots0, slots_ud, cells_U, agg_ud, drop0, dropS, takeS, take0, ud_nil, take_ud, take_ud0, drop_ud, drop_ud0, take_udk, D.cells, D.fz, D.fzs, List.take_succ_cons, List.take_zero, List.drop_succ_cons, List.drop_zero, List.cons_append, List.nil_append, List.append_eq, List.length_cons, List.length_nil, Nat.reduceAdd, Nat.reduceMul, Nat.reduceSub, Int.reduceAdd, Int.reduceSub, Int.reduceToNat, Int.reduceNeg, Int.reduceMul]) | refine q_blocky rfl ?_ | refine W_plain rfl ?_ | refine W_drawn mixed rfl ?_ | refine and_chk (by kernel_rfl) ?_ | refine k_move rfl rfl ?_ | refine k_assign rfl rfl ?_ | refine k_min rfl rfl rfl h1 ?_ | (refine k_slice rfl rfl rfl rfl ⟨?_, ?_, ?_⟩ (by exact hl.symm) (by exact h2) (by exact h3) ?_; (omega); (omega); (omega)) | refine W_unroll (WL_round ?_) | refine WL_round ?_ | (refine k_append rfl rfl rfl ?_ ?_ ?_ rfl ?_ rfl rfl rfl ?_; (first | rfl | exact trivial | (show 0 < _; omega)); (first | rfl | (simp <;> omega)); (first | rfl | (simp <;> omega)); (omega)) | (refine k_slice rfl rfl rfl rfl ⟨?_, ?_, ?_⟩ rfl rfl rfl ?_; (omega); (omega); (omega)) | (refine k_slice3 rfl rfl rfl rfl rfl ⟨?_, ?_, ?_⟩ rfl rfl rfl ?_; (omega); (omega); (omega)) | (refine k_sliceA rfl rfl rfl rfl ⟨?_, ?_, ?_, ?_⟩ rfl rfl ?_; (omega); (omega); (omega); (omega)) | (refine k_sliceE rfl rfl rfl rfl ⟨?_, ?_, ?_, ?_⟩ rfl rfl rfl rfl ?_; (omega); (omega); (omega); (omega)) | refine k_len rfl rfl ?_ | refine W_yes rfl ?_ | refine W_no rfl ?_)
  (first | with_reducible refine q_endr ?_ | with_reducible refine q_endn ?_); refine rets1 Try.results18 (by first | exact RetV.tmp _ _ rfl | exact RetV.cell _ _ _ _ _ _ _ _ inferInstance rfl rfl rfl) ?_
  rfl
theorem rws_cut (z : List RawT) (k : Nat) (r : RawT) (hget : z[k]? = some r) (ze : List D) : cut ⟨true, 4, ze⟩ 0 ((rws z).drop ((k : Int).toNat * 4)) = some (.agg r.cells) := by
  have hl := rws_len z
  have hlt := (List.getElem?_eq_some_iff.1 hget).1
  unfold cut
  simp only [cond_true, Int.toNat_natCast, Nat.zero_add, List.length_drop, hl, List.drop_zero]
  rw [Nat.ble_eq_true_of_le (by omega), cond_true]
  unfold rws
  rw [fl_at (f := RawT.cells) (s := 4) (fun _ => rfl) z k r hget]
theorem rt_all (r : RawT) : List.take 4 r.cells = r.cells := rfl
theorem rep_raw (G : Gh) (w : World) (k a b : Int) (s : ByteArray) : Rep G w (.agg [.int .i64 k, .int .i64 a, .int .i64 b, .str s]) (.agg #[.int .i64 k, .int .i64 a, .int .i64 b, .string s]) := by
  obtain ⟨u, h1, h2⟩ := D.ok_val G w (.agg [.int .i64 k, .int .i64 a, .int .i64 b, .str s]) rfl
  cases h1
  exact h2
end Go.Proofs.Ytbpaimfnfigjpaa

namespace Go.Proofs.Ytbpaimfnfigjpaa
open Go.RowKit Go.Lib Go.IntWalk
set_option linter.unusedVariables false
set_option maxRecDepth 100000

theorem u8_of (x : Int) : ∃ c : UInt8, IntKind.u8.wrap x = ((c.toNat : Nat) : Int) := by
  have h : 0 ≤ IntKind.u8.wrap x ∧ IntKind.u8.wrap x < 256 := by rw [IntKind.wrap_u8]; omega
  refine ⟨UInt8.ofNat (IntKind.u8.wrap x).toNat, ?_⟩
  rw [UInt8.toNat_ofNat']; omega
/-- 32 bytes, one by one -/
theorem list32 (l : List UInt8) (h : l.length = 32) : ∃ (i : List UInt8) (a b : UInt8), i.length = 30 ∧ l = i ++ [a, b] := by
  refine ⟨l.take 30, l[30], l[31], by rw [List.length_take]; omega, ?_⟩
  conv => lhs; rw [← List.take_append_drop 30 l]
  congr 1
  rw [List.drop_eq_getElem_cons (by omega), List.drop_eq_getElem_cons (by omega), List.drop_of_length_le (by omega)]
theorem z32 : (List.replicate 32 (D.int .u8 0)) = bs (List.replicate 32 0) := rfl
theorem u8_xor (x y : Int) : ∃ c : UInt8, bitw .xor .u8 x y = ((c.toNat : Nat) : Int) := u8_of _
theorem bs_put (l : List UInt8) (k : Nat) (c : UInt8) (h : k < l.length) : splice (0 + ((k : Nat) : Int).toNat * 1) [D.int .u8 (c.toNat : Int)] (bs l) = some (bs (l.set k c)) := by
  unfold splice
  rw [Nat.ble_eq_true_of_le (by rw [bs_len]; simp; omega), cond_true]
  congr 1
  rw [Int.toNat_natCast, Nat.zero_add, Nat.mul_one]
  unfold bs
  rw [← List.map_take, ← List.map_drop, List.set_eq_take_append_cons_drop, if_pos h]
  simp
theorem bs_ix (l : List UInt8) (k : Nat) (h : k < l.length) : cut ⟨false, 1, [.int .u8 0]⟩ (0 + ((k : Nat) : Int).toNat * 1) (bs l) = some (.int .u8 ((l.getD k 0).toNat : Int)) := by
  unfold cut
  rw [Int.toNat_natCast, Nat.zero_add, Nat.mul_one, cond_false]
  refine bs_get l k _ ?_
  rw [List.getD_eq_getElem?_getD, List.getElem?_eq_getElem h]; rfl
end Go.Proofs.Ytbpaimfnfigjpaa

namespace Go.Proofs.Ytbpaimfnfigjpaa
open Go.RowKit Go.Lib Go.IntWalk
set_option linter.unusedVariables false
set_option maxRecDepth 100000

theorem lim_mk (a b c d : Nat) (ha : a < 18446744073709551616) (hb : b < 18446744073709551616) (hc : c < 18446744073709551616) (hd : d < 18446744073709551616) : ∃ x, x < M256 ∧ lim x 0 = a ∧ lim x 1 = b ∧ lim x 2 = c ∧ lim x 3 = d := by
  refine ⟨a + 18446744073709551616 * (b + 18446744073709551616 * (c + 18446744073709551616 * d)), by unfold M256; omega, ?_, ?_, ?_, ?_⟩
  · rw [lim0, Nat.add_mul_mod_self_left, Nat.mod_eq_of_lt ha]
  · rw [lim1, Nat.add_mul_div_left _ _ (by decide), Nat.div_eq_of_lt ha, Nat.zero_add, Nat.add_mul_mod_self_left, Nat.mod_eq_of_lt hb]
  · rw [lim2, show (340282366920938463463374607431768211456 : Nat) = 18446744073709551616 * 18446744073709551616 from by decide, ← Nat.div_div_eq_div_mul, Nat.add_mul_div_left _ _ (by decide), Nat.div_eq_of_lt ha, Nat.zero_add, Nat.add_mul_div_left _ _ (by decide), Nat.div_eq_of_lt hb, Nat.zero_add, Nat.add_mul_mod_self_left, Nat.mod_eq_of_lt hc]
  · unfold lim
    rw [show (18446744073709551616 ^ 3 : Nat) = 18446744073709551616 * (18446744073709551616 * 18446744073709551616) from by decide, ← Nat.div_div_eq_div_mul, ← Nat.div_div_eq_div_mul, Nat.add_mul_div_left _ _ (by decide), Nat.div_eq_of_lt ha, Nat.zero_add, Nat.add_mul_div_left _ _ (by decide), Nat.div_eq_of_lt hb, Nat.zero_add, Nat.add_mul_div_left _ _ (by decide), Nat.div_eq_of_lt hc, Nat.zero_add, Nat.mod_eq_of_lt hd]
theorem U_of (v0 v1 v2 v3 : Int) (h0 : 0 ≤ v0 ∧ v0 < 18446744073709551616) (h1 : 0 ≤ v1 ∧ v1 < 18446744073709551616) (h2 : 0 ≤ v2 ∧ v2 < 18446744073709551616) (h3 : 0 ≤ v3 ∧ v3 < 18446744073709551616) : ∃ x, x < M256 ∧ [D.int .u64 v0, .int .u64 v1, .int .u64 v2, .int .u64 v3] = ud x := by
  obtain ⟨x, hx, e0, e1, e2, e3⟩ := lim_mk v0.toNat v1.toNat v2.toNat v3.toNat (by omega) (by omega) (by omega) (by omega)
  refine ⟨x, hx, ?_⟩
  unfold ud
  rw [e0, e1, e2, e3, Int.toNat_of_nonneg h0.1, Int.toNat_of_nonneg h1.1, Int.toNat_of_nonneg h2.1, Int.toNat_of_nonneg h3.1]
theorem wru (x : Int) : 0 ≤ IntKind.u64.wrap x ∧ IntKind.u64.wrap x < 18446744073709551616 := by rw [IntKind.wrap_u64]; omega
set_option maxHeartbeats 4000000 in
theorem numberD (k a b : Int) (s : ByteArray) : ∃ x, x < M256 ∧ Pur Try.prog 19 [.agg [.int .i64 k, .int .i64 a, .int .i64 b, .str s]] (U x) := by
  have wa := wru a
  have wb := wru b
  obtain ⟨va, hva⟩ : ∃ v, IntKind.u64.wrap a = v := ⟨_, rfl⟩
  obtain ⟨vb, hvb⟩ : ∃ v, IntKind.u64.wrap b = v := ⟨_, rfl⟩
  rw [hva] at wa
  rw [hvb] at wb
  have z0 : (0 : Int) ≤ 0 ∧ (0 : Int) < 18446744073709551616 := by decide
  have zm : (0 : Int) ≤ 18446744073709551615 ∧ (18446744073709551615 : Int) < 18446744073709551616 := by decide
  obtain ⟨c, hc⟩ : ∃ c, k % 5 = c := ⟨_, rfl⟩
  have pk := p_picked k 5 c (by decide) (by decide) hc
  have h5 : c = 0 ∨ c = 1 ∨ c = 2 ∨ c = 3 ∨ c = 4 := by omega
  rcases h5 with rfl | rfl | rfl | rfl | rfl
  · obtain ⟨t, ht⟩ : ∃ t, a % 1000 = t := ⟨_, rfl⟩
    have pt := p_picked a 1000 t (by decide) (by decide) ht
    have wt : IntKind.u64.wrap t = t := u64_in _ (by omega)
    obtain ⟨x, hx, e⟩ := U_of t 0 0 0 (by omega) z0 z0 z0
    refine ⟨x, hx, ?_⟩
    rw [show U x = .agg (ud x) from rfl, ← e]
    refine pur_intro Try.func19 rfl Try.ntmps19 rfl (by first | rfl | assumption | exact bs_cl _) fun B => ?_
    repeat (first | with_reducible (first | refine W_seq ?_ | refine q_then ?_ | refine q_thenr ?_ | refine q_thenx ?_ | refine W_block ?_ | refine q_block ?_ | refine q_blockr ?_ | refine q_blockx ?_ | refine W_ret ?_ | refine W_skip ?_ | refine W_label ?_ | refine W_exit ?_ | refine W_scope ?_ | refine q_scope ?_ | refine q_scoper ?_ | refine q_scopex ?_) | (with_reducible refine R_nil ?_; try dsimp only [slots0, slots_ud, cells_U, agg_ud, drop0, dropS, takeS, take0, ud_nil, take_ud, take_ud0, drop_ud, drop_ud0, take_udk, D.cells, D.fz, D.fzs, List.take_succ_cons, List.take_zero, List.drop_succ_cons, List.drop_zero, List.cons_append, List.nil_append, List.append_eq, List.length_cons, List.length_nil, Nat.reduceAdd, Nat.reduceMul, Nat.reduceSub, Int.reduceAdd, Int.reduceSub, Int.reduceToNat, Int.reduceNeg, Int.reduceMul]) | refine q_blocky rfl ?_ | refine W_plain rfl ?_ | refine W_drawn mixed rfl ?_ | refine and_chk (by kernel_rfl) ?_ | refine k_move rfl rfl ?_ | refine k_assign rfl rfl ?_ | refine k_load rfl rfl rfl rfl ?_ | refine k_alloc rfl ?_ | refine k_box rfl rfl rfl ?_ | refine k_store rfl rfl rfl rfl rfl rfl rfl ?_ | refine k_fieldAddr rfl rfl rfl ?_ | refine k_build rfl rfl rfl ?_ | refine k_conv rfl rfl hva ?_ | refine k_conv rfl rfl hvb ?_ | refine k_call rfl pk rfl rfl rfl rfl ?_ | refine k_call rfl pt rfl rfl rfl rfl ?_ | refine k_conv rfl rfl wt ?_ | refine k_loade rfl rfl rfl ?_ | refine k_fieldAddre rfl rfl rfl rfl ?_ | (refine k_eqlT rfl rfl rfl ?_ ?_; (omega)) | (refine k_eqlF rfl rfl rfl ?_ ?_; (omega)) | refine k_eqa rfl rfl rfl rfl rfl rfl ?_ | refine W_yes rfl ?_ | refine W_no rfl ?_)
    (first | with_reducible refine q_endr ?_ | with_reducible refine q_endn ?_); refine rets1 Try.results19 (by first | exact RetV.tmp _ _ rfl | exact RetV.cell _ _ _ _ _ _ _ _ inferInstance rfl rfl rfl) ?_
    rfl
  · obtain ⟨x, hx, e⟩ := U_of va 0 0 0 wa z0 z0 z0
    refine ⟨x, hx, ?_⟩
    rw [show U x = .agg (ud x) from rfl, ← e]
    refine pur_intro Try.func19 rfl Try.ntmps19 rfl (by first | rfl | assumption | exact bs_cl _) fun B => ?_
    repeat (first | with_reducible (first | refine W_seq ?_ | refine q_then ?_ | refine q_thenr ?_ | refine q_thenx ?_ | refine W_block ?_ | refine q_block ?_ | refine q_blockr ?_ | refine q_blockx ?_ | refine W_ret ?_ | refine W_skip ?_ | refine W_label ?_ | refine W_exit ?_ | refine W_scope ?_ | refine q_scope ?_ | refine q_scoper ?_ | refine q_scopex ?_) | (with_reducible refine R_nil ?_; try dsimp only [slots0, slots_ud, cells_U, agg_ud, drop0, dropS, takeS, take0, ud_nil, take_ud, take_ud0, drop_ud, drop_ud0, take_udk, D.cells, D.fz, D.fzs, List.take_succ_cons, List.take_zero, List.drop_succ_cons, List.drop_zero, List.cons_append, List.nil_append, List.append_eq, List.length_cons, List.length_nil, Nat.reduceAdd, Nat.reduceMul, Nat.reduceSub, Int.reduceAdd, Int.reduceSub, Int.reduceToNat, Int.reduceNeg, Int.reduceMul]) | refine q_blocky rfl ?_ | refine W_plain rfl ?_ | refine W_drawn mixed rfl ?_ | refine and_chk (by kernel_rfl) ?_ | refine k_move rfl rfl ?_ | refine k_assign rfl rfl ?_ | refine k_load rfl rfl rfl rfl ?_ | refine k_alloc rfl ?_ | refine k_box rfl rfl rfl ?_ | refine k_store rfl rfl rfl rfl rfl rfl rfl ?_ | refine k_fieldAddr rfl rfl rfl ?_ | refine k_build rfl rfl rfl ?_ | refine k_conv rfl rfl hva ?_ | refine k_conv rfl rfl hvb ?_ | refine k_call rfl pk rfl rfl rfl rfl ?_ | refine k_loade rfl rfl rfl ?_ | refine k_fieldAddre rfl rfl rfl rfl ?_ | (refine k_eqlT rfl rfl rfl ?_ ?_; (omega)) | (refine k_eqlF rfl rfl rfl ?_ ?_; (omega)) | refine k_eqa rfl rfl rfl rfl rfl rfl ?_ | refine W_yes rfl ?_ | refine W_no rfl ?_)
    (first | with_reducible refine q_endr ?_ | with_reducible refine q_endn ?_); refine rets1 Try.results19 (by first | exact RetV.tmp _ _ rfl | exact RetV.cell _ _ _ _ _ _ _ _ inferInstance rfl rfl rfl) ?_
    rfl
  · obtain ⟨x, hx, e⟩ := U_of va vb 0 0 wa wb z0 z0
    refine ⟨x, hx, ?_⟩
    rw [show U x = .agg (ud x) from rfl, ← e]
    refine pur_intro Try.func19 rfl Try.ntmps19 rfl (by first | rfl | assumption | exact bs_cl _) fun B => ?_
    repeat (first | with_reducible (first | refine W_seq ?_ | refine q_then ?_ | refine q_thenr ?_ | refine q_thenx ?_ | refine W_block ?_ | refine q_block ?_ | refine q_blockr ?_ | refine q_blockx ?_ | refine W_ret ?_ | refine W_skip ?_ | refine W_label ?_ | refine W_exit ?_ | refine W_scope ?_ | refine q_scope ?_ | refine q_scoper ?_ | refine q_scopex ?_) | (with_reducible refine R_nil ?_; try dsimp only [slots0, slots_ud, cells_U, agg_ud, drop0, dropS, takeS, take0, ud_nil, take_ud, take_ud0, drop_ud, drop_ud0, take_udk, D.cells, D.fz, D.fzs, List.take_succ_cons, List.take_zero, List.drop_succ_cons, List.drop_zero, List.cons_append, List.nil_append, List.append_eq, List.length_cons, List.length_nil, Nat.reduceAdd, Nat.reduceMul, Nat.reduceSub, Int.reduceAdd, Int.reduceSub, Int.reduceToNat, Int.reduceNeg, Int.reduceMul]) | refine q_blocky rfl ?_ | refine W_plain rfl ?_ | refine W_drawn mixed rfl ?_ | refine and_chk (by kernel_rfl) ?_ | refine k_move rfl rfl ?_ | refine k_assign rfl rfl ?_ | refine k_load rfl rfl rfl rfl ?_ | refine k_alloc rfl ?_ | refine k_box rfl rfl rfl ?_ | refine k_store rfl rfl rfl rfl rfl rfl rfl ?_ | refine k_fieldAddr rfl rfl rfl ?_ | refine k_build rfl rfl rfl ?_ | refine k_conv rfl rfl hva ?_ | refine k_conv rfl rfl hvb ?_ | refine k_call rfl pk rfl rfl rfl rfl ?_ | refine k_loade rfl rfl rfl ?_ | refine k_fieldAddre rfl rfl rfl rfl ?_ | (refine k_eqlT rfl rfl rfl ?_ ?_; (omega)) | (refine k_eqlF rfl rfl rfl ?_ ?_; (omega)) | refine k_eqa rfl rfl rfl rfl rfl rfl ?_ | refine W_yes rfl ?_ | refine W_no rfl ?_)
    (first | with_reducible refine q_endr ?_ | with_reducible refine q_endn ?_); refine rets1 Try.results19 (by first | exact RetV.tmp _ _ rfl | exact RetV.cell _ _ _ _ _ _ _ _ inferInstance rfl rfl rfl) ?_
    rfl
  · have w1 := wru (va * 11400714819323198485)
    have w2 := wru (vb * 14029467366897019727)
    have w3 : 0 ≤ bitw .xor .u64 va vb ∧ bitw .xor .u64 va vb < 18446744073709551616 := by unfold bitw; exact wru _
    obtain ⟨x, hx, e⟩ := U_of _ _ _ _ w1 wb w3 w2
    refine ⟨x, hx, ?_⟩
    rw [show U x = .agg (ud x) from rfl, ← e]
    refine pur_intro Try.func19 rfl Try.ntmps19 rfl (by first | rfl | assumption | exact bs_cl _) fun B => ?_
    repeat (first | with_reducible (first | refine W_seq ?_ | refine q_then ?_ | refine q_thenr ?_ | refine q_thenx ?_ | refine W_block ?_ | refine q_block ?_ | refine q_blockr ?_ | refine q_blockx ?_ | refine W_ret ?_ | refine W_skip ?_ | refine W_label ?_ | refine W_exit ?_ | refine W_scope ?_ | refine q_scope ?_ | refine q_scoper ?_ | refine q_scopex ?_) | (with_reducible refine R_nil ?_; try dsimp only [slots0, slots_ud, cells_U, agg_ud, drop0, dropS, takeS, take0, ud_nil, take_ud, take_ud0, drop_ud, drop_ud0, take_udk, D.cells, D.fz, D.fzs, List.take_succ_cons, List.take_zero, List.drop_succ_cons, List.drop_zero, List.cons_append, List.nil_append, List.append_eq, List.length_cons, List.length_nil, Nat.reduceAdd, Nat.reduceMul, Nat.reduceSub, Int.reduceAdd, Int.reduceSub, Int.reduceToNat, Int.reduceNeg, Int.reduceMul]) | refine q_blocky rfl ?_ | refine W_plain rfl ?_ | refine W_drawn mixed rfl ?_ | refine and_chk (by kernel_rfl) ?_ | refine k_move rfl rfl ?_ | refine k_assign rfl rfl ?_ | refine k_load rfl rfl rfl rfl ?_ | refine k_alloc rfl ?_ | refine k_box rfl rfl rfl ?_ | refine k_store rfl rfl rfl rfl rfl rfl rfl ?_ | refine k_fieldAddr rfl rfl rfl ?_ | refine k_build rfl rfl rfl ?_ | refine k_conv rfl rfl hva ?_ | refine k_conv rfl rfl hvb ?_ | refine k_call rfl pk rfl rfl rfl rfl ?_ | refine k_mul rfl rfl rfl rfl ?_ | refine k_bits rfl rfl rfl rfl rfl ?_ | refine k_loade rfl rfl rfl ?_ | refine k_fieldAddre rfl rfl rfl rfl ?_ | (refine k_eqlT rfl rfl rfl ?_ ?_; (omega)) | (refine k_eqlF rfl rfl rfl ?_ ?_; (omega)) | refine k_eqa rfl rfl rfl rfl rfl rfl ?_ | refine W_yes rfl ?_ | refine W_no rfl ?_)
    (first | with_reducible refine q_endr ?_ | with_reducible refine q_endn ?_); refine rets1 Try.results19 (by first | exact RetV.tmp _ _ rfl | exact RetV.cell _ _ _ _ _ _ _ _ inferInstance rfl rfl rfl) ?_
    rfl
  · obtain ⟨c1, hc1⟩ : ∃ c, bitw .xor .u64 (if IntKind.u64.signed then -1 else IntKind.u64.max) va = c := ⟨_, rfl⟩
    obtain ⟨c2, hc2⟩ : ∃ c, bitw .xor .u64 (if IntKind.u64.signed then -1 else IntKind.u64.max) vb = c := ⟨_, rfl⟩
    have w1 : 0 ≤ c1 ∧ c1 < 18446744073709551616 := by rw [← hc1]; unfold bitw; exact wru _
    have w2 : 0 ≤ c2 ∧ c2 < 18446744073709551616 := by rw [← hc2]; unfold bitw; exact wru _
    obtain ⟨x, hx, e⟩ := U_of c1 c2 _ _ w1 w2 zm zm
    refine ⟨x, hx, ?_⟩
    rw [show U x = .agg (ud x) from rfl, ← e]
    refine pur_intro Try.func19 rfl Try.ntmps19 rfl (by first | rfl | assumption | exact bs_cl _) fun B => ?_
    repeat (first | with_reducible (first | refine W_seq ?_ | refine q_then ?_ | refine q_thenr ?_ | refine q_thenx ?_ | refine W_block ?_ | refine q_block ?_ | refine q_blockr ?_ | refine q_blockx ?_ | refine W_ret ?_ | refine W_skip ?_ | refine W_label ?_ | refine W_exit ?_ | refine W_scope ?_ | refine q_scope ?_ | refine q_scoper ?_ | refine q_scopex ?_) | (with_reducible refine R_nil ?_; try dsimp only [slots0, slots_ud, cells_U, agg_ud, drop0, dropS, takeS, take0, ud_nil, take_ud, take_ud0, drop_ud, drop_ud0, take_udk, D.cells, D.fz, D.fzs, List.take_succ_cons, List.take_zero, List.drop_succ_cons, List.drop_zero, List.cons_append, List.nil_append, List.append_eq, List.length_cons, List.length_nil, Nat.reduceAdd, Nat.reduceMul, Nat.reduceSub, Int.reduceAdd, Int.reduceSub, Int.reduceToNat, Int.reduceNeg, Int.reduceMul]) | refine q_blocky rfl ?_ | refine W_plain rfl ?_ | refine W_drawn mixed rfl ?_ | refine and_chk (by kernel_rfl) ?_ | refine k_move rfl rfl ?_ | refine k_assign rfl rfl ?_ | refine k_load rfl rfl rfl rfl ?_ | refine k_alloc rfl ?_ | refine k_box rfl rfl rfl ?_ | refine k_store rfl rfl rfl rfl rfl rfl rfl ?_ | refine k_fieldAddr rfl rfl rfl ?_ | refine k_build rfl rfl rfl ?_ | refine k_conv rfl rfl hva ?_ | refine k_conv rfl rfl hvb ?_ | refine k_call rfl pk rfl rfl rfl rfl ?_ | refine k_com rfl rfl hc1 ?_ | refine k_com rfl rfl hc2 ?_ | refine k_loade rfl rfl rfl ?_ | refine k_fieldAddre rfl rfl rfl rfl ?_ | (refine k_eqlT rfl rfl rfl ?_ ?_; (omega)) | (refine k_eqlF rfl rfl rfl ?_ ?_; (omega)) | refine k_eqa rfl rfl rfl rfl rfl rfl ?_ | refine W_yes rfl ?_ | refine W_no rfl ?_)
    (first | with_reducible refine q_endr ?_ | with_reducible refine q_endn ?_); refine rets1 Try.results19 (by first | exact RetV.tmp _ _ rfl | exact RetV.cell _ _ _ _ _ _ _ _ inferInstance rfl rfl rfl) ?_
    rfl
end Go.Proofs.Ytbpaimfnfigjpaa

namespace Go.Proofs.Ytbpaimfnfigjpaa
open Go.RowKit Go.Lib Go.IntWalk
set_option linter.unusedVariables false
set_option maxRecDepth 100000

set_option maxHeartbeats 8000000 in
theorem word_ok (k a b : Int) (s : ByteArray) : ∃ z : List UInt8, z.length = 32 ∧ Pur Try.prog 29 [.agg [.int .i64 k, .int .i64 a, .int .i64 b, .str s]] (.agg (bs z)) := by
  obtain ⟨c, hc⟩ := u8_of a
  obtain ⟨d, hd⟩ := u8_of b
  have hsl : s.data.toList.length = s.size := by rw [Array.length_toList]; rfl
  obtain ⟨q, hq⟩ : ∃ q, Nat.min s.size 32 = q := ⟨_, rfl⟩
  have hq32 : q ≤ 32 := by rw [← hq]; exact Nat.min_le_right _ _
  obtain ⟨t, ht⟩ : ∃ t, s.data.toList.take q = t := ⟨_, rfl⟩
  have htl : t.length = q := by
    have : q ≤ s.size := by rw [← hq]; exact Nat.min_le_left _ _
    rw [← ht, List.length_take]; omega
  obtain ⟨i, x, y, hi, hz⟩ := list32 (t ++ (List.replicate 32 0).drop q) (by simp [htl]; omega)
  have hil : (bs i).length = 30 := by rw [bs_len, hi]
  have hsp : splice 0 (bs t) (bs (List.replicate 32 0)) = some (bs i ++ [.int .u8 (x.toNat : Int), .int .u8 (y.toNat : Int)]) := by
    unfold splice
    rw [Nat.ble_eq_true_of_le (by rw [bs_len, bs_len, htl, List.length_replicate]; omega), cond_true]
    congr 1
    have e : (bs (List.replicate 32 0)).drop (0 + (bs t).length) = bs ((List.replicate 32 0).drop q) := by
      rw [Nat.zero_add, bs_len, htl]; simp [bs, List.map_drop]
    rw [e, List.take_zero, List.nil_append]
    have e2 : bs t ++ bs ((List.replicate 32 0).drop q) = bs (t ++ (List.replicate 32 0).drop q) := by simp [bs]
    rw [e2, hz]; simp [bs]
  have hp1 : splice 30 [D.int .u8 (c.toNat : Int)] (bs i ++ [.int .u8 (x.toNat : Int), .int .u8 (y.toNat : Int)]) = some (bs i ++ [.int .u8 (c.toNat : Int), .int .u8 (y.toNat : Int)]) := by
    unfold splice
    rw [Nat.ble_eq_true_of_le (by simp [hil]), cond_true, ← hil, List.take_left, List.drop_append, List.drop_of_length_le (by simp)]
    simp
  have hp2 : splice 31 [D.int .u8 (d.toNat : Int)] (bs i ++ [.int .u8 (c.toNat : Int), .int .u8 (y.toNat : Int)]) = some (bs i ++ [.int .u8 (c.toNat : Int), .int .u8 (d.toNat : Int)]) := by
    unfold splice
    have e31 : 31 = (bs i).length + 1 := by omega
    rw [Nat.ble_eq_true_of_le (by simp [hil]), cond_true, e31, List.take_append, List.take_of_length_le (by omega), List.drop_append, List.drop_of_length_le (by simp; omega)]
    simp [Nat.add_sub_cancel_left]
    omega
  refine ⟨i ++ [c, d], by simp [hi], ?_⟩
  have hres : bs i ++ [.int .u8 (c.toNat : Int), .int .u8 (d.toNat : Int)] = bs (i ++ [c, d]) := by simp [bs]
  rw [hres] at hp2
  have hZ : (i ++ [c, d]).length = 32 := by simp [hi]
  generalize i ++ [c, d] = Z at *
  refine pur_intro Try.func29 rfl Try.ntmps29 rfl (by first | rfl | assumption | exact bs_cl _) fun B => ?_
  repeat (first | with_reducible (first | refine W_seq ?_ | refine q_then ?_ | refine q_thenr ?_ | refine q_thenx ?_ | refine W_block ?_ | refine q_block ?_ | refine q_blockr ?_ | refine q_blockx ?_ | refine W_ret ?_ | refine W_skip ?_ | refine W_label ?_ | refine W_exit ?_ | refine W_scope ?_ | refine q_scope ?_ | refine q_scoper ?_ | refine q_scopex ?_) | (with_reducible refine R_nil ?_; try dsimp only [slots0, slots_ud, cells_U, agg_ud, drop0, dropS, takeS, take0, ud_nil, take_ud, take_ud0, drop_ud, drop_ud0, take_udk, D.cells, D.fz, D.fzs, List.take_succ_cons, List.take_zero, List.drop_succ_cons, List.drop_zero, List.cons_append, List.nil_append, List.append_eq, List.length_cons, List.length_nil, Nat.reduceAdd, Nat.reduceMul, Nat.reduceSub, Int.reduceAdd, Int.reduceSub, Int.reduceToNat, Int.reduceNeg, Int.reduceMul]) | refine q_blocky rfl ?_ | refine W_plain rfl ?_ | refine W_drawn mixed rfl ?_ | refine and_chk (by kernel_rfl) ?_ | refine k_load rfl rfl rfl rfl ?_ | refine k_alloc rfl ?_ | refine k_box rfl rfl rfl ?_ | refine k_store rfl rfl rfl rfl rfl rfl rfl ?_ | refine k_fieldAddr rfl rfl rfl ?_ | refine k_copys rfl rfl rfl rfl rfl hq ht (by exact hsp) ?_ | refine k_conv rfl rfl hc ?_ | refine k_conv rfl rfl hd ?_ | refine k_store rfl rfl rfl rfl rfl rfl (by exact hp1) ?_ | refine k_store rfl rfl rfl rfl rfl rfl (by exact hp2) ?_ | refine k_load rfl rfl rfl (b_cut hZ _) ?_ | refine k_store rfl rfl rfl rfl (b_len hZ) (b_fits _) (b_put hZ _ rfl) ?_ | refine W_unroll (WL_round ?_) | refine WL_round ?_ | (refine k_append rfl rfl rfl ?_ ?_ ?_ rfl ?_ rfl rfl rfl ?_; (first | rfl | exact trivial | (show 0 < _; omega)); (first | rfl | (simp <;> omega)); (first | rfl | (simp <;> omega)); (omega)) | (refine k_slice rfl rfl rfl rfl ⟨?_, ?_, ?_⟩ rfl rfl rfl ?_; (omega); (omega); (omega)) | (refine k_slice3 rfl rfl rfl rfl rfl ⟨?_, ?_, ?_⟩ rfl rfl rfl ?_; (omega); (omega); (omega)) | (refine k_sliceA rfl rfl rfl rfl ⟨?_, ?_, ?_, ?_⟩ rfl rfl ?_; (omega); (omega); (omega); (omega)) | (refine k_sliceE rfl rfl rfl rfl ⟨?_, ?_, ?_, ?_⟩ rfl rfl rfl rfl ?_; (omega); (omega); (omega); (omega)) | (refine k_indexAddr rfl rfl rfl ⟨?_, ?_⟩ ?_; (omega); (omega)) | (refine k_indexAddrs rfl rfl rfl ⟨?_, ?_⟩ rfl ?_; (omega); (omega)) | refine k_loade rfl rfl rfl ?_ | refine k_fieldAddre rfl rfl rfl rfl ?_ | refine W_yes rfl ?_ | refine W_no rfl ?_)
  (first | with_reducible refine q_endr ?_ | with_reducible refine q_endn ?_); refine rets1 Try.results29 (RetV.cell _ _ _ _ _ _ _ _ inferInstance rfl rfl (by exact b_cut hZ _)) ?_
  exact b_fz _


end Go.Proofs.Ytbpaimfnfigjpaa

namespace Go.Proofs.Ytbpaimfnfigjpaa
open Go.RowKit Go.Lib Go.IntWalk
set_option linter.unusedVariables false
set_option maxRecDepth 100000
/-- the first bytes of a text -/
def cutL (s : ByteArray) (k : Nat) : List UInt8 := s.data.toList.take k
theorem cut_ok (s : ByteArray) (k : Nat) : ∃ s' : ByteArray, s'.data.toList = cutL s k ∧ Pur Try.prog 32 [.str s, .int .i64 k] (.str s') := by
  have hsl : s.data.toList.length = s.size := by rw [Array.length_toList]; rfl
  obtain ⟨q, hq⟩ : ∃ q, Nat.min s.size k = q := ⟨_, rfl⟩
  have hmin : min (s.size : Int) (k : Int) = (q : Int) := by rw [← hq]; show min _ _ = ((min s.size k : Nat) : Int); omega
  have hq1 : q ≤ s.size := by rw [← hq]; exact Nat.min_le_left _ _
  refine ⟨s.extract 0 q, ?_, ?_⟩
  · unfold cutL
    rw [ByteArray.data_extract, Array.toList_extract]
    simp only [List.extract_eq_take_drop, List.drop_zero, Nat.sub_zero]
    rw [← hq, show Nat.min s.size k = min k s.data.toList.length from by rw [hsl]; exact Nat.min_comm _ _]
    rcases Nat.le_total k s.data.toList.length with h | h
    · rw [Nat.min_eq_left h]
    · rw [Nat.min_eq_right h, List.take_of_length_le (Nat.le_refl _), List.take_of_length_le h]
  · have h2 : s.extract (0 : Int).toNat ((q : Int)).toNat = s.extract 0 q := by rw [Int.toNat_natCast]; rfl
    refine pur_intro Try.func32 rfl Try.ntmps32 rfl (by first | rfl | assumption | exact bs_cl _) fun B => ?_
    repeat (first | with_reducible (first | refine W_seq ?_ | refine q_then ?_ | refine q_thenr ?_ | refine q_thenx ?_ | refine W_block ?_ | refine q_block ?_ | refine q_blockr ?_ | refine q_blockx ?_ | refine W_ret ?_ | refine W_skip ?_ | refine W_label ?_ | refine W_exit ?_ | refine W_scope ?_ | refine q_scope ?_ | refine q_scoper ?_ | refine q_scopex ?_) | (with_reducible refine R_nil ?_; try dsimp only [slots0, slots_ud, cells_U, agg_ud, drop0, dropS, takeS, take0, ud_nil, take_ud, take_ud0, drop_ud, drop_ud0, take_udk, D.cells, D.fz, D.fzs, List.take_succ_cons, List.take_zero, List.drop_succ_cons, List.drop_zero, List.cons_append, List.nil_append, List.append_eq, List.length_cons, List.length_nil, Nat.reduceAdd, Nat.reduceMul, Nat.reduceSub, Int.reduceAdd, Int.reduceSub, Int.reduceToNat, Int.reduceNeg, Int.reduceMul]) | refine q_blocky rfl ?_ | refine W_plain rfl ?_ | refine W_drawn mixed rfl ?_ | refine and_chk (by kernel_rfl) ?_ | refine k_move rfl rfl ?_ | refine k_assign rfl rfl ?_ | refine k_lens rfl Try.underlying9 rfl ?_ | refine k_min rfl rfl rfl hmin ?_ | (refine k_slices rfl Try.underlying9 rfl rfl rfl ⟨?_, ?_, ?_⟩ h2 ?_; (omega); (omega); (omega)) | refine k_len rfl rfl ?_ | refine W_yes rfl ?_ | refine W_no rfl ?_)
    (first | with_reducible refine q_endr ?_ | with_reducible refine q_endn ?_); refine rets1 Try.results32 (by first | exact RetV.tmp _ _ rfl | exact RetV.cell _ _ _ _ _ _ _ _ inferInstance rfl rfl rfl) ?_
    rfl
theorem cutL_len (s : ByteArray) (k : Nat) : (cutL s k).length ≤ k := by unfold cutL; rw [List.length_take]; omega

theorem mod_nat (a : Int) (m : Nat) (h : 0 < m) : ∃ q : Nat, a % (m : Int) = q ∧ q < m := by
  have h0 := Int.emod_nonneg a (show (m : Int) ≠ 0 by omega)
  have h1 := Int.emod_lt_of_pos a (show (0 : Int) < m by omega)
  exact ⟨(a % (m : Int)).toNat, by omega, by omega⟩
end Go.Proofs.Ytbpaimfnfigjpaa
