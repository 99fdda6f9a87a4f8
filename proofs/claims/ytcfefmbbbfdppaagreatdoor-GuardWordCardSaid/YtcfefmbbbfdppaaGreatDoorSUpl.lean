/- A contract over data that are more. Of any program. No conditions. -/
import Derived.Test.YtcfefmbbbfdppaaGreatDoorSRow
import Derived.Test.YtcfefmbbbfdppaaGreatDoorSGate1
import Derived.Deep.Slices
import Derived.Test.YtcfefmbbbfdppaaGreatDoorSKit
import Derived.Test.YtcfefmbbbfdppaaGreatDoorSDCode
import Derived.Test.YtcfefmbbbfdppaaGreatDoorSBytes
import Derived.Test.YtcfefmbbbfdppaaGreatDoorSDMore
import Derived.Test.YtcfefmbbbfdppaaGreatDoorSDInst
import Derived.Test.YtcfefmbbbfdppaaGreatDoorSDK2
namespace Go.Proofs.YtcfefmbbbfdppaaGreatDoor
open Go.ChangeShapes Go.WideShapes Go.RowKit Go.Joins Go.Deep
set_option linter.unusedVariables false
def allhw (w : World) : Nat → Nat := fun b => match w.heap[b]? with | some (.cells vs _ _) => vs.size | _ => 0
theorem allhw_ok (w : World) : HwOk (allhw w) w := fun b hb => by
  unfold allhw at hb ⊢
  cases h : w.heap[b]? with
  | none => rw [h] at hb; simp at hb
  | some o => cases o with
    | cells vs T fr => exact ⟨vs, T, fr, rfl, Nat.le_refl _⟩
    | _ => rw [h] at hb; simp at hb
theorem rowAt_le {P : Program} {fits : TypeId → Bool} {d : Nat} {e : TypeId} {count off n : Nat} (h : rowAt P fits d e count off n = true) : off ≤ count * P.cellsOf e := by
  cases d with
  | zero => simp [rowAt] at h
  | succ d =>
    unfold rowAt at h
    simp only at h
    split at h
    · cases h
    · rename_i hs
      have hs : 0 < P.cellsOf e := by omega
      have hd := Nat.div_add_mod off (P.cellsOf e)
      have hm := Nat.mod_lt off hs
      simp only [Bool.or_eq_true, Bool.and_eq_true, beq_iff_eq, decide_eq_true_iff] at h
      rcases h with ⟨⟨h1, h2⟩, _⟩ | ⟨h1, _⟩
      · have : off / P.cellsOf e * P.cellsOf e ≤ count * P.cellsOf e := Nat.mul_le_mul_right _ (by omega)
        rw [Nat.mul_comm] at hd; omega
      · have : (off / P.cellsOf e + 1) * P.cellsOf e ≤ count * P.cellsOf e := Nat.mul_le_mul_right _ h1
        rw [Nat.add_mul] at this
        rw [Nat.mul_comm] at hd; omega
theorem liesAt_le {P : Program} : ∀ {d : Nat} {e : TypeId} {count off : Nat} {u : TypeId} {n : Nat}, liesAt P d e count off u n = true → off ≤ count * P.cellsOf e
  | 0, _, _, _, _, _, h => by simp [liesAt] at h
  | d + 1, e, count, off, u, n, h => by
    unfold liesAt at h
    simp only [Bool.or_eq_true] at h
    rcases h with h | h
    · exact rowAt_le h
    · split at h
      · exact liesAt_le h
      · cases h
theorem calls_of_purS {F : FuncId} {ds : List D} {vs : Array Value} {w : World} (h : Pur Tryz.prog F ds (.bool true)) (hr : Reps (bare (allhw w)) w ds vs) (hg : GTab w [] := by exact gtab_nil _) : Calls Tryz.prog F vs w fun e w' => e = .returned (.bool true) ∧ New w w' :=
  (h w (allhw w) vs hg (allhw_ok w) hr).mono fun e w' ⟨v, hw', he, hN, _, _, hrv⟩ => by cases hrv; exact ⟨he, hN⟩
end Go.Proofs.YtcfefmbbbfdppaaGreatDoor
namespace Go.Proofs.YtcfefmbbbfdppaaGreatDoor
open Go.ChangeShapes Go.WideShapes Go.RowKit Go.Joins Go.Deep
set_option linter.unusedVariables false
set_option maxRecDepth 100000
structure RawT where
  k : Int
  a : Int
  b : Int
  s : ByteArray
def RawT.cells (r : RawT) : List D := [.int .i64 r.k, .int .i64 r.a, .int .i64 r.b, .str r.s]
def RawT.ok (r : RawT) : Prop := (Lit.int .i64 r.k).wf = true ∧ (Lit.int .i64 r.a).wf = true ∧ (Lit.int .i64 r.b).wf = true ∧ r.s.size ≤ maxLen
def RawT.vals (r : RawT) : List Value := [.int .i64 r.k, .int .i64 r.a, .int .i64 r.b, .string r.s]
def rws (l : List RawT) : List D := l.flatMap RawT.cells
theorem rws_len (l : List RawT) : (rws l).length = l.length * 4 := fl_len (f := RawT.cells) (s := 4) (fun _ => rfl) l
section
variable {H : Type} {enc : TypeId × Value → H}
theorem open_raws {w : World} {base : Nat} {spare : Nat → Bool} {held : Bool} {r : Reach} {b0 : Nat} {v : Value} {d : DataW H} {p : List MemPlace} (hv : Value.okWide Tryz.prog w r b0 24 v) (h : DataW.Trod enc Tryz.prog w base spare held 24 v d p) :
    ∃ l : List RawT, (∀ x ∈ l, x.ok) ∧ Rep (bare (allhw w)) w (.slice .frozen l.length (rws l)) v := by
  simp only [Value.okWide, Tryz.underlying24, Cell.okWide, Cell.ok] at hv
  obtain ⟨fuel, hf⟩ := h
  cases v <;> first | exact False.elim hv | skip
  rename_i ao len cap
  cases ao with
  | none =>
    cases len <;> cases cap <;> first | exact False.elim hv | skip
    exact ⟨[], fun x hx => by simp at hx, .nil _⟩
  | some ad =>
    obtain ⟨hle, _, _, hsp, row, cells, hsh, hli⟩ := hv
    rcases open_slice Tryz.underlying24 hf with ⟨h0, _⟩ | ⟨a', len', cap', m, n, Df, Pl, hcs, hb, hl, hmx, hm, _, hx⟩
    · simp [Value.cells] at h0
    · simp only [Value.cells, List.cons.injEq, Value.slice.injEq, Option.some.injEq, and_true] at hcs
      obtain ⟨rfl, rfl, rfl⟩ := hcs
      obtain ⟨b, o, sp⟩ := ad
      simp only at hsp
      subst hsp
      have hC : (Tryz.prog).cellsOf 23 = 4 := by kernel_rfl
      rw [hC] at hx
      obtain ⟨vs, fr, hblk, hcells⟩ : ∃ vs fr, w.heap[b]? = some (.cells vs row fr) ∧ vs.size = cells := by
        unfold World.shape? at hsh
        split at hsh
        · rename_i c el fr hh
          simp only [Option.some.injEq, Prod.mk.injEq] at hsh
          obtain ⟨rfl, rfl⟩ := hsh
          exact ⟨c, fr, hh, rfl⟩
        · cases hsh
      have hmem : b < w.heap.size := (Array.getElem?_eq_some_iff.1 hblk).1
      have hall : allhw w b = vs.size := by unfold allhw; rw [hblk]
      have ho : o ≤ vs.size := by
        have : o ≤ _ := liesAt_le hli
        have h2 := Nat.div_mul_le_self cells ((Tryz.prog).cellsOf row)
        omega
      have hcl : ∀ i, w.cell? ⟨b, i, none⟩ = vs[i]? := fun i => cell_of_row w _ _ vs row fr hblk
      have hlm : len ≤ m := by rw [hm]; split <;> omega
      have hel : ∀ i, ∃ x : RawT, i < len → x.ok ∧ ∀ j, j < 4 → vs[o + i * 4 + j]? = x.vals[j]? := by
        intro i
        by_cases hi : i < len
        · obtain ⟨cs', h1, h2⟩ := hx i (by omega)
          obtain ⟨_, hlen, hat⟩ := World.cells?_some h1
          match cs', hlen with
          | [c0, c1, c2, c3], _ =>
            obtain ⟨y0, y1, y2, y3, nn, _, _, hy0, hy1, hy2, hy3⟩ := trod_struct4 Tryz.underlying23 h2
            have k1 : (Tryz.prog).cellsOf 3 = 1 := by kernel_rfl
            have k2 : (Tryz.prog).cellsOf 9 = 1 := by kernel_rfl
            simp only [k1, k2] at hy0 hy1 hy2 hy3
            obtain ⟨k, e0, _, wk⟩ := DataW.trod_int Tryz.underlying3 hy0
            obtain ⟨a, e1, _, wa⟩ := DataW.trod_int Tryz.underlying3 hy1
            obtain ⟨b, e2, _, wb⟩ := DataW.trod_int Tryz.underlying3 hy2
            obtain ⟨s, e3, _, ws⟩ := DataW.trod_string Tryz.underlying9 hy3
            simp at e0 e1 e2 e3
            subst e0 e1 e2 e3
            refine ⟨⟨k, a, b, s⟩, fun _ => ⟨⟨wk, wa, wb, ws⟩, fun j hj => ?_⟩⟩
            have := hat j hj
            rw [show ((⟨_, o, none⟩ : Addr).add (i * 4)).add j = ⟨_, o + i * 4 + j, none⟩ from by rw [add_off, add_off], hcl] at this
            exact this
        · exact ⟨⟨0, 0, 0, ⟨#[]⟩⟩, fun h => absurd h hi⟩
      let R : Nat → RawT := fun i => Classical.choose (hel i)
      have hR : ∀ i, i < len → (R i).ok ∧ ∀ j, j < 4 → vs[o + i * 4 + j]? = (R i).vals[j]? := fun i => Classical.choose_spec (hel i)
      refine ⟨(List.range len).map R, fun x hx => ?_, ?_⟩
      · obtain ⟨i, hi, rfl⟩ := List.mem_map.1 hx
        exact (hR i (List.mem_range.1 hi)).1
      · have hlen : ((List.range len).map R).length = len := by simp
        rw [hlen]
        have hrl := rws_len ((List.range len).map R)
        rw [hlen] at hrl
        have hget : ∀ i, i < len * 4 → (rws ((List.range len).map R))[i]? = ((R (i / 4)).cells)[i % 4]? := fun i hi => by
          unfold rws
          rw [fl_get (f := RawT.cells) (s := 4) (by decide) (fun _ => rfl)]
          have h1 : i / 4 < len := by omega
          simp [h1]
        have hval : ∀ i, i < len * 4 → vs[o + i]? = ((R (i / 4)).vals)[i % 4]? := fun i hi => by
          have := (hR (i / 4) (by omega)).2 (i % 4) (Nat.mod_lt _ (by decide))
          rw [show o + i / 4 * 4 + i % 4 = o + i from by omega] at this
          exact this
        have hsz : o + len * 4 ≤ vs.size := by
          rcases Nat.eq_zero_or_pos len with h0 | h0
          · subst h0; omega
          · have := hval (len * 4 - 1) (by omega)
            have h4 : (len * 4 - 1) % 4 < 4 := Nat.mod_lt _ (by decide)
            have hlt : o + (len * 4 - 1) < vs.size := by
              rcases Nat.lt_or_ge (o + (len * 4 - 1)) vs.size with h | h
              · exact h
              · rw [Array.getElem?_eq_none h, eq_comm, List.getElem?_eq_none_iff] at this
                simp [RawT.vals] at this; omega
            omega
        refine .slice .frozen len _ b o cap (vs.extract o (o + len * 4)) (by rw [hrl]; simp; omega) (fun d hd => ?_) (fun i d v hd hv => ?_) (by show _ ≤ allhw w b; rw [hrl, hall]; exact hsz) (fun i hi => ?_) hmem hle trivial
        · obtain ⟨x, _, hx2⟩ := List.mem_flatMap.1 hd
          simp only [RawT.cells, List.mem_cons, List.not_mem_nil, or_false] at hx2
          rcases hx2 with rfl | rfl | rfl | rfl <;> exact ⟨rfl, rfl⟩
        · have hi : i < len * 4 := by rw [← hrl]; exact (List.getElem?_eq_some_iff.1 hd).1
          rw [hget i hi] at hd
          rw [Array.getElem?_extract, if_pos (by omega), hval i hi] at hv
          have h4 : i % 4 < 4 := Nat.mod_lt _ (by decide)
          generalize i % 4 = q at hd hv h4
          obtain rfl | rfl | rfl | rfl : q = 0 ∨ q = 1 ∨ q = 2 ∨ q = 3 := by omega
          all_goals
            simp [RawT.cells] at hd
            simp [RawT.vals] at hv
            subst hd; subst hv
            first | exact .int _ _ | exact .str _
        · rw [hrl] at hi
          rw [hcl, Array.getElem?_extract, if_pos (by omega)]
end
end Go.Proofs.YtcfefmbbbfdppaaGreatDoor
namespace Go.Proofs.YtcfefmbbbfdppaaGreatDoor
open Go.RowKit
set_option linter.unusedVariables false
theorem picked_any (n m : Int) (hm : 0 < m) (hm' : m ≤ 4611686018427387904) (w : World) :
    Calls Tryz.prog 10 #[.int .i64 n, .int .i64 m] w fun e w' => e = .returned (.int .i64 (n % m)) ∧ w = w' := by
  have h1 := hide (tmod_emod n m hm)
  have h2 := hide (Int.emod_nonneg n (by omega : m ≠ 0))
  have h3 := hide (Int.emod_lt_of_pos n hm)
  go_enter Tryz.func10, Tryz.ntmps10
  go_wp2
  · have h : n.tmod m < 0 := by assumption
    go_ret
    refine ⟨ret_int ?_, rfl⟩
    have h1 := h1.out; have h2 := h2.out; have h3 := h3.out
    rw [if_pos h] at h1
    rw [wrap64, ← h1]; omega
  · have h : 0 ≤ n.tmod m := by assumption
    go_ret
    refine ⟨ret_int ?_, rfl⟩
    have h1 := h1.out
    rw [if_neg (by omega)] at h1
    exact h1.symm
theorem picked_q (n m : Int) (hm : 0 < m) (hm' : m ≤ 4611686018427387904) (w : World) :
    Calls Tryz.prog 10 #[.int .i64 n, .int .i64 m] w fun e w' => e = .returned (.int .i64 (n % m)) ∧ w' = w := (picked_any n m hm hm' w).mono fun _ _ h => ⟨h.1, h.2.symm⟩
end Go.Proofs.YtcfefmbbbfdppaaGreatDoor
namespace Go.Proofs.YtcfefmbbbfdppaaGreatDoor
open Go.RowKit
set_option linter.unusedVariables false
theorem p_picked (n m q : Int) (hm : 0 < m) (hm' : m ≤ 4611686018427387904) (hq : n % m = q) : Pur Tryz.prog 10 [.int .i64 n, .int .i64 m] (.int .i64 q) :=
  pur_of_calls (vs := [.int .i64 n, .int .i64 m]) rfl rfl rfl fun w => (picked_q n m hm hm' w).mono fun e w' h => by
    obtain ⟨h1, h2⟩ := h
    subst h2
    exact ⟨by rw [h1, hq], new_refl _⟩
end Go.Proofs.YtcfefmbbbfdppaaGreatDoor
namespace Go.Proofs.YtcfefmbbbfdppaaGreatDoor
open Go.RowKit Go.Lib
set_option linter.unusedVariables false
set_option maxRecDepth 100000
theorem some_ok (l : List RawT) (m : Nat) (hm : m ≤ 1000) : Pur Tryz.prog 16 [.slice .frozen l.length (rws l), .int .i64 m] (.slice .frozen (l.take m).length (rws (l.take m))) := by
  have hl := rws_len l
  have h1 : min (l.length : Int) (m : Int) = ((l.take m).length : Int) := by rw [List.length_take]; omega
  have h2 : (((l.take m).length : Int) - 0).toNat = (l.take m).length := by omega
  have h3 : ((rws l).drop ((0 : Int).toNat * 4)).take ((l.take m).length * 4) = rws (l.take m) := by
    show (rws l).take _ = _
    unfold rws
    rw [fl_take (f := RawT.cells) (s := 4) (fun _ => rfl), List.length_take]
    congr 1
    rcases Nat.le_total m l.length with h | h
    · rw [Nat.min_eq_left h]
    · rw [Nat.min_eq_right h, List.take_length, List.take_of_length_le h]
  have h4 : (l.take m).length ≤ l.length := by rw [List.length_take]; omega
  generalize l.take m = l' at *
  refine pur_intro Tryz.func16 rfl Tryz.ntmps16 rfl (by first | rfl | assumption | exact bs_cl _) fun B => ?_
  repeat (first | refine zc ?_ | refine zA ?_ | refine k_min rfl rfl rfl h1 ?_ | (refine k_slice rfl rfl rfl rfl ⟨?_, ?_, ?_⟩ (by exact hl.symm) (by exact h2) (by exact h3) ?_; (omega); (omega); (omega)) | refine zB ?_)
  (first | with_reducible refine q_endr ?_); refine rets1 Tryz.results16 (by exact zv) ?_
  rfl
theorem rws_cut (z : List RawT) (k : Nat) (r : RawT) (hget : z[k]? = some r) (ze : List D) : cut ⟨true, 4, ze⟩ 0 ((rws z).drop ((k : Int).toNat * 4)) = some (.agg r.cells) := by
  have hl := rws_len z
  have hlt := (List.getElem?_eq_some_iff.1 hget).1
  unfold cut
  simp only [cond_true, Int.toNat_natCast, Nat.zero_add, List.length_drop, hl, List.drop_zero]
  rw [Nat.ble_eq_true_of_le (by omega), cond_true]
  unfold rws
  rw [fl_at (f := RawT.cells) (s := 4) (fun _ => rfl) z k r hget]
theorem rep_raw (G : Gh) (w : World) (k a b : Int) (s : ByteArray) : Rep G w (.agg [.int .i64 k, .int .i64 a, .int .i64 b, .str s]) (.agg #[.int .i64 k, .int .i64 a, .int .i64 b, .string s]) := by
  obtain ⟨u, h1, h2⟩ := D.ok_val G w (.agg [.int .i64 k, .int .i64 a, .int .i64 b, .str s]) rfl
  cases h1
  exact h2
end Go.Proofs.YtcfefmbbbfdppaaGreatDoor
namespace Go.Proofs.YtcfefmbbbfdppaaGreatDoor
open Go.RowKit Go.Lib Go.IntWalk
set_option linter.unusedVariables false
set_option maxRecDepth 100000
--nrm lg_all
theorem lg_all (a b : By) : List.take 2 (lg a b) = lg a b := rfl
theorem one_cut (cs : List D) (j : Nat) (d : D) (h : cs[j]? = some d) (z : List D) : cut ⟨false, 1, z⟩ 0 (cs.drop j) = some d := by
  have hlt := (List.getElem?_eq_some_iff.1 h).1
  unfold cut
  simp only [cond_false, List.drop_zero]
  rw [List.getElem?_drop]
  simpa using h
theorem bs_cut (l : By) (i : Nat) (x : UInt8) (h : l[i]? = some x) (z : List D) : cut ⟨false, 1, z⟩ 0 ((bs l).drop ((i : Int).toNat * 1)) = some (.int .u8 (x.toNat : Int)) := by
  rw [Int.toNat_natCast, Nat.mul_one]
  exact one_cut _ _ _ (bs_get l i x h) z
theorem tl8_take (l : By) (i : Nat) (x : UInt8) (h : l[i]? = some x) : tl8 (l.take (i + 1)) = tl8 (l.take i) + x := by
  unfold tl8
  rw [List.take_add_one, h]
  simp [List.foldl_append]
theorem u8_add (a b : UInt8) : IntKind.u8.wrap ((a.toNat : Int) + (b.toNat : Int)) = (((a + b).toNat : Nat) : Int) := by
  rw [IntKind.wrap_u8, UInt8.toNat_add]; omega
set_option maxHeartbeats 4000000 in
theorem tail_ok (l : By) (hl : l.length ≤ 100000) (c : UInt8) (hc : tl8 l = c) : Pur Tryz.prog 103 [.slice .frozen l.length (bs l)] (.int .u8 (c.toNat : Int)) := by
  have hb : l.length * 1 = (bs l).length := by rw [bs_len, Nat.mul_one]
  refine pur_intro Tryz.func103 rfl Tryz.ntmps103 rfl (by first | rfl | assumption | exact bs_cl _) fun B => ?_
  repeat (first | (with_reducible refine R_nil ?_; try dsimp only [slots0, slots_ud, lg_all, cells_U, agg_ud, drop0, dropS, takeS, take0, ud_nil, take_ud, take_ud0, drop_ud, drop_ud0, take_udk, D.cells, D.fz, D.fzs, List.take_succ_cons, List.take_zero, List.drop_succ_cons, List.drop_zero, List.cons_append, List.nil_append, List.append_eq, List.length_cons, List.length_nil, Nat.reduceAdd, Nat.reduceMul, Nat.reduceSub, Int.reduceAdd, Int.reduceSub, Int.reduceToNat, Int.reduceNeg, Int.reduceMul]) | refine zc ?_ | refine zAB ?_)
  refine W_loop (fun n' ρ m nx => ∃ (i : Nat) (s : UInt8), i ≤ l.length ∧ s = tl8 (l.take i) ∧ n' = l.length - i ∧ ρ = [(8, .int .i64 (i : Int)), (7, .int .i64 (l.length : Int)), (6, .slice .frozen l.length (bs l)), (3, .int .u8 (s.toNat : Int)), (2, .int .u8 0)] ∧ m = [] ∧ nx = 0)
    ⟨_, _, _, _, (by exact zs), (by exact zm), 0, 0, Nat.zero_le _, rfl, rfl, rfl, rfl, rfl⟩ ?_
  rintro n' ρ m nx ⟨i, s, hi, hs, rfl, rfl, rfl, rfl⟩
  by_cases hlt : i < l.length
  · obtain ⟨x, hx⟩ : ∃ x, l[i]? = some x := ⟨_, List.getElem?_eq_getElem hlt⟩
    have cu := bs_cut l i x hx
    have ha := u8_add s x
    have ht := tl8_take l i x hx
    rw [← hs] at ht
    repeat (first | (with_reducible refine R_nil ?_; try dsimp only [slots0, slots_ud, lg_all, cells_U, agg_ud, drop0, dropS, takeS, take0, ud_nil, take_ud, take_ud0, drop_ud, drop_ud0, take_udk, D.cells, D.fz, D.fzs, List.take_succ_cons, List.take_zero, List.drop_succ_cons, List.drop_zero, List.cons_append, List.nil_append, List.append_eq, List.length_cons, List.length_nil, Nat.reduceAdd, Nat.reduceMul, Nat.reduceSub, Int.reduceAdd, Int.reduceSub, Int.reduceToNat, Int.reduceNeg, Int.reduceMul]) | refine zc ?_ | refine zA ?_ | (refine k_indexAddrs rfl rfl rfl ⟨?_, ?_⟩ hb ?_; (omega); (omega)) | refine k_loade rfl rfl (cu _) ?_ | refine k_add rfl rfl rfl ha ?_ | refine zB ?_)
    exact ⟨l.length - (i + 1), _, _, _, (by exact zs), (by exact zm), by omega, i + 1, _, by omega, ht.symm, rfl, rfl, rfl, rfl⟩
  · have ei : i = l.length := by omega
    subst ei
    rw [List.take_length, hc] at hs
    subst hs
    repeat (first | (with_reducible refine R_nil ?_; try dsimp only [slots0, slots_ud, lg_all, cells_U, agg_ud, drop0, dropS, takeS, take0, ud_nil, take_ud, take_ud0, drop_ud, drop_ud0, take_udk, D.cells, D.fz, D.fzs, List.take_succ_cons, List.take_zero, List.drop_succ_cons, List.drop_zero, List.cons_append, List.nil_append, List.append_eq, List.length_cons, List.length_nil, Nat.reduceAdd, Nat.reduceMul, Nat.reduceSub, Int.reduceAdd, Int.reduceSub, Int.reduceToNat, Int.reduceNeg, Int.reduceMul]) | refine zc ?_ | refine zA ?_ | refine zB ?_)
    (first | with_reducible refine q_endr ?_); refine rets1 Tryz.results103 (by exact zv) ?_
    rfl
set_option maxHeartbeats 4000000 in
theorem Append_ok (a b r : By) (hr : r.length ≤ 200) (h : a.length + b.length + r.length + 3 ≤ 9000) : Pur Tryz.prog 77 [.agg (lg a b), .slice .frozen r.length (bs r)] (.tup [.agg (lg a (b ++ rec8 r)), .int .i64 0]) := by
  have ta := tail_ok r (by omega) _ rfl
  have la := bs_len a
  have lb := bs_len b
  have lr := bs_len r
  have hsh : (r.length : Int).fdiv (2 ^ (min (8 : Int).toNat IntKind.i64.bits)) = 0 := by
    rw [Int.fdiv_eq_ediv_of_nonneg _ (by decide)]
    show (r.length : Int) / 256 = 0
    omega
  have hc0 : IntKind.u8.wrap 0 = ((UInt8.ofNat (r.length / 256)).toNat : Int) := by rw [Nat.div_eq_of_lt (by omega)]; rfl
  have hc1 : IntKind.u8.wrap (r.length : Int) = ((UInt8.ofNat r.length).toNat : Int) := by rw [u8_in _ (by omega), UInt8.toNat_ofNat']; omega
  have e : lg a (b ++ rec8 r) = [.slice .frozen (0 + a.length) (bs a), .slice .frozen (0 + b.length + (2 + r.length + 1)) (bs b ++ ([.int .u8 ((UInt8.ofNat (r.length / 256)).toNat : Int), .int .u8 ((UInt8.ofNat r.length).toNat : Int)] ++ bs r ++ [.int .u8 ((tl8 r).toNat : Int)]))] := by
    unfold lg
    rw [bs_app, List.length_append, rec8_len, Nat.zero_add, Nat.zero_add]
    have : bs (rec8 r) = [.int .u8 ((UInt8.ofNat (r.length / 256)).toNat : Int), .int .u8 ((UInt8.ofNat r.length).toNat : Int)] ++ bs r ++ [.int .u8 ((tl8 r).toNat : Int)] := by simp [rec8, bs]
    rw [this, show r.length + 3 = 2 + r.length + 1 from by omega]
  rw [e]
  generalize tl8 r = t at *
  generalize ((UInt8.ofNat (r.length / 256)).toNat : Int) = x0 at *
  generalize ((UInt8.ofNat r.length).toNat : Int) = x1 at *
  refine pur_intro Tryz.func77 rfl Tryz.ntmps77 rfl (by first | rfl | assumption | exact bs_cl _) fun B => ?_
  repeat (first | (with_reducible refine R_nil ?_; try dsimp only [slots0, slots_ud, lg_all, cells_U, agg_ud, drop0, dropS, takeS, take0, ud_nil, take_ud, take_ud0, drop_ud, drop_ud0, take_udk, D.cells, D.fz, D.fzs, List.take_succ_cons, List.take_zero, List.drop_succ_cons, List.drop_zero, List.cons_append, List.nil_append, List.append_eq, List.length_cons, List.length_nil, Nat.reduceAdd, Nat.reduceMul, Nat.reduceSub, Int.reduceAdd, Int.reduceSub, Int.reduceToNat, Int.reduceNeg, Int.reduceMul]) | refine zc ?_ | refine zA ?_ | refine k_call rfl ta rfl rfl rfl rfl ?_ | (refine k_shr rfl rfl rfl ?_ hsh ?_; (decide)) | refine k_conv rfl rfl hc0 ?_ | refine k_conv rfl rfl hc1 ?_ | refine k_buildSlice (cs := [.int .u8 x0, .int .u8 x1]) rfl rfl rfl rfl rfl rfl rfl ?_ | refine k_buildSlice (cs := [.int .u8 (t.toNat : Int)]) rfl rfl rfl rfl rfl rfl rfl ?_ | refine zB ?_)
  (first | with_reducible refine q_endr ?_); refine rets2 Tryz.results77 (by exact zv) (by exact zv) ?_ ?_
  all_goals rfl
theorem Sync_ok (a b : By) (h : a.length + b.length ≤ 9000) : Pur Tryz.prog 78 [.agg (lg a b)] (.agg [.slice .frozen (0 + a.length + b.length) (bs a ++ bs b), .slice .nil 0 []]) := by
  have la := bs_len a
  have lb := bs_len b
  refine pur_intro Tryz.func78 rfl Tryz.ntmps78 rfl (by first | rfl | assumption | exact bs_cl _) fun B => ?_
  repeat (first | (with_reducible refine R_nil ?_; try dsimp only [slots0, slots_ud, lg_all, cells_U, agg_ud, drop0, dropS, takeS, take0, ud_nil, take_ud, take_ud0, drop_ud, drop_ud0, take_udk, D.cells, D.fz, D.fzs, List.take_succ_cons, List.take_zero, List.drop_succ_cons, List.drop_zero, List.cons_append, List.nil_append, List.append_eq, List.length_cons, List.length_nil, Nat.reduceAdd, Nat.reduceMul, Nat.reduceSub, Int.reduceAdd, Int.reduceSub, Int.reduceToNat, Int.reduceNeg, Int.reduceMul]) | refine zc ?_ | refine zA ?_ | refine zB ?_)
  (first | with_reducible refine q_endr ?_); refine rets1 Tryz.results78 (by exact zv) ?_
  all_goals rfl
end Go.Proofs.YtcfefmbbbfdppaaGreatDoor
namespace Go.Proofs.YtcfefmbbbfdppaaGreatDoor
open Go.RowKit Go.Lib Go.IntWalk
set_option linter.unusedVariables false
set_option maxRecDepth 100000
--nrm lg_all lgn_all rt_all
def lgn (a : By) : List D := [.slice .frozen a.length (bs a), .slice .nil 0 []]
theorem lgn_ups (a : By) : Ups (lgn a) (lg a []) := .cons (.refl _) (.cons (.nil _) .nil)
theorem Sync_at (a b : By) (h : a.length + b.length ≤ 9000) : Pur Tryz.prog 78 [.agg (lg a b)] (.agg (lgn (a ++ b))) := by
  have := Sync_ok a b h
  rw [← bs_app, Nat.zero_add, ← List.length_append] at this
  exact this
end Go.Proofs.YtcfefmbbbfdppaaGreatDoor
namespace Go.Proofs.YtcfefmbbbfdppaaGreatDoor
open Go.RowKit
set_option linter.unusedVariables false
theorem pur_upl {P : Program} {F : FuncId} {ds es : List D} {d : D} (h : Pur P F es d) (u : Ups ds es) : Pur P F ds d := fun w hw vs hg hok hr => h w hw vs hg hok (u.reps hr)
end Go.Proofs.YtcfefmbbbfdppaaGreatDoor
