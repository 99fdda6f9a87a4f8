/- load: Check and Encode of each kind. Conditions: as said. -/
import Derived.Test.YtcfefmbbbfdppaaSLoad5
import Derived.Test.YtcfefmbbbfdppaaSDMi
import Derived.Test.YtcfefmbbbfdppaaSDFix
import Derived.Test.YtcfefmbbbfdppaaSFlat
import Derived.Test.YtcfefmbbbfdppaaSGb
import Derived.Test.YtcfefmbbbfdppaaSGd
namespace Go.Proofs.Ytcfefmbbbfdppaa
open Go.RowKit Go.Lib Go.IntWalk
set_option linter.unusedVariables false
set_option maxRecDepth 100000
end Go.Proofs.Ytcfefmbbbfdppaa
namespace Go.Proofs.Ytcfefmbbbfdppaa
open Go.RowKit Go.Lib Go.IntWalk
set_option linter.unusedVariables false
set_option maxRecDepth 100000
theorem cut_drop0 {ty : Ty} {off : Nat} {X : List D} {d : D} (h : cut ty off X = some d) : cut ty 0 (X.drop off) = some d := by
  obtain ⟨a, n, ze⟩ := ty
  unfold cut at h ⊢
  cases a with
  | false => simp only [cond_false] at h ⊢; rw [List.getElem?_drop]; exact h
  | true =>
    simp only [cond_true] at h ⊢
    rw [Nat.zero_add, List.drop_zero]
    cases hb : Nat.ble (off + n) X.length with
    | false => rw [hb] at h; cases h
    | true =>
      rw [hb, cond_true] at h
      rw [Nat.ble_eq_true_of_le (by have := Nat.le_of_ble_eq_true hb; rw [List.length_drop]; omega), cond_true]; exact h
theorem cut_part {n : Nat} {X c ze : List D} (h : cut ⟨true, n, ze⟩ 0 X = some (.agg c)) : Nat.ble (n * 1) X.length = true ∧ (X.drop ((0 : Int).toNat * 1)).take (n * 1) = c := by
  unfold cut at h
  simp only [cond_true, Nat.zero_add, List.drop_zero] at h
  cases hb : Nat.ble n X.length with
  | false => rw [hb] at h; cases h
  | true =>
    rw [hb, cond_true] at h
    rw [Nat.mul_one]
    exact ⟨hb, by injection h with h; injection h⟩
theorem bs_part (n : Nat) (l : List UInt8) (h : l.length = n) : Nat.ble (n * 1) (bs l).length = true ∧ ((bs l).drop ((0 : Int).toNat * 1)).take (n * 1) = bs l := by
  rw [Nat.mul_one]
  exact ⟨Nat.ble_eq_true_of_le (by rw [bs_len, h]; exact Nat.le_refl _), List.take_of_length_le (by rw [Nat.mul_one]; simp [bs_len, h])⟩
theorem toB_2 (n : Nat) : (toB 2 n).length = 2 := toB_len 2 n
theorem join_7 (a b c d e f g : List UInt8) (ha : a.length = 32) (hb : b.length = 32) (hc : c.length = 2) (hd : d.length = 32) (he : e.length = 2) (hf : f.length = 32) (n no : Nat) (hg : g.length = n) (hn : n ≤ 1000) (hno : 132 + n = no) (z : List D) (hz : bs (a ++ (b ++ (c ++ (d ++ (e ++ (f ++ g)))))) = z) :
    Pur Try.prog 92 [.slice .frozen 7 [.slice .frozen 32 (bs a), .slice .frozen 32 (bs b), .slice .frozen 2 (bs c), .slice .frozen 32 (bs d), .slice .frozen 2 (bs e), .slice .frozen 32 (bs f), .slice .frozen n (bs g)]] (.slice .frozen no z) := by
  have hfl : ([a, b, c, d, e, f, g] : List (List UInt8)).flatten = a ++ (b ++ (c ++ (d ++ (e ++ (f ++ g))))) := by simp
  have := join_ok [a, b, c, d, e, f, g] 7 rfl (by decide) (by rw [hfl]; simp [ha, hb, hc, hd, he, hf, hg]; omega) no (by rw [hfl]; simp [ha, hb, hc, hd, he, hf, hg]; omega)
  rw [hfl, hz] at this
  simp only [slsC, List.map_cons, List.map_nil, ha, hb, hc, hd, he, hf, hg] at this
  exact this
set_option maxHeartbeats 8000000 in
theorem tr_put (p : Bool) (l : LoadT) (h1 : l.tk.length = 32) (h2 : l.tp.length = 32) (hn tn : Nat) (hh : l.ho = (hn : Int)) (ht : l.tc = (tn : Int)) (hh9 : hn ≤ 65535) (ht9 : tn ≤ 65535) (n no : Nat) (hd : l.da.length = n) (hd9 : n ≤ 1000) (hno : 132 + n = no)
    (z : List D) (hz : bs (b32 l.am ++ (l.tk ++ (toB 2 hn ++ (l.tp ++ (toB 2 tn ++ (b32 l.fe ++ l.da)))))) = z) : Pur Try.prog 87 [.agg [.bool p], .agg l.cells] (.slice .frozen no z) := by
  unfold LoadT.cells
  have fa := ldC_all (k := l.k) (am := l.am) (fe := l.fe) (ho := l.ho) h1 h2 l.tl rfl
  have f0 := ldC_k l.k l.am l.fe l.tk l.ho l.tp l.tl
  have f1 := ldC_am l.k l.am l.fe l.tk l.ho l.tp l.tl
  have f2 := ldC_fe l.k l.am l.fe l.tk l.ho l.tp l.tl
  have f3 := ldC_tk (k := l.k) (am := l.am) (fe := l.fe) (ho := l.ho) (tp := l.tp) h1 l.tl
  have f4 := ldC_ho (k := l.k) (am := l.am) (fe := l.fe) (ho := l.ho) (tp := l.tp) h1 l.tl
  have f5 := ldC_tp (k := l.k) (am := l.am) (fe := l.fe) (ho := l.ho) h1 h2 l.tl
  have f6 := ldC_tl (k := l.k) (am := l.am) (fe := l.fe) (ho := l.ho) h1 h2 0 _ l.tl rfl 74 rfl
  have f7 := ldC_tl (k := l.k) (am := l.am) (fe := l.fe) (ho := l.ho) h1 h2 1 _ l.tl rfl 75 rfl
  have f8 := ldC_tl (k := l.k) (am := l.am) (fe := l.fe) (ho := l.ho) h1 h2 2 _ l.tl rfl 76 rfl
  have f9 := ldC_tl (k := l.k) (am := l.am) (fe := l.fe) (ho := l.ho) h1 h2 3 _ l.tl rfl 77 rfl
  have f10 := ldC_tl (k := l.k) (am := l.am) (fe := l.fe) (ho := l.ho) h1 h2 4 _ l.tl rfl 78 rfl
  have f11 := ldC_tl (k := l.k) (am := l.am) (fe := l.fe) (ho := l.ho) h1 h2 5 _ l.tl rfl 79 rfl
  have hl := ldC_len (k := l.k) (am := l.am) (fe := l.fe) (ho := l.ho) h1 h2 l.tl rfl
  have hcl : D.cls (ldC l.k l.am l.fe l.tk l.ho l.tp l.tl) = true := ldC_cl _ _ _ _ _ _ _ (by unfold LoadT.tl; simp [D.cls, D.cl])
  have hle : ∀ off, off ≤ 80 → Nat.ble off (ldC l.k l.am l.fe l.tk l.ho l.tp l.tl).length = true := fun off h => Nat.ble_eq_true_of_le (by rw [hl]; exact h)
  have g3 := cut_drop0 (ty := ⟨true, 32, []⟩) (f3 _)
  have g4 := fun ze => cut_drop0 (ty := ⟨false, 1, ze⟩) (f4 ze)
  have g5 := cut_drop0 (ty := ⟨true, 32, []⟩) (f5 _)
  have g6 := fun ze => cut_drop0 (ty := ⟨false, 1, ze⟩) (f6 ze)
  --g7 := fun ze => cut_drop0 (ty := ⟨false, 1, ze⟩) (f7 ze)
  have g9 := fun ze => cut_drop0 (ty := ⟨false, 1, ze⟩) (f9 ze)
  obtain ⟨s3l, s3⟩ := cut_part g3
  obtain ⟨s5l, s5⟩ := cut_part g5
  clear g3 g5
  have q1 := Bytes_ok l.am
  have q2 := Bytes_ok l.fe
  have q3 := two_ok hn hh9
  have q4 := two_ok tn ht9
  have q5 := join_7 _ _ _ _ _ _ _ (b32_len l.am) h1 (toB_2 hn) h2 (toB_2 tn) (b32_len l.fe) n no hd hd9 hno z hz
  have lA := b32_len l.am
  have lF := b32_len l.fe
  generalize b32 l.am = A at *
  generalize b32 l.fe = F at *
  generalize toB 2 hn = HB at *
  generalize toB 2 tn = TB at *
  obtain ⟨sal, sa⟩ := bs_part 32 A lA
  obtain ⟨sfl, sf⟩ := bs_part 32 F lF
  generalize ldC l.k l.am l.fe l.tk l.ho l.tp l.tl = X at *
  obtain ⟨k, am, fe, tk, ho, tp, tc, de, sy, da, ix, kn, kz⟩ := l
  dsimp only at *
  simp only [hh] at g4
  simp only [ht] at g6
  simp only [hd] at g9
  clear f0 f3 f4 f5 f6 f7 f8 f9 f10 f11
  refine pur_intro Try.func87 rfl Try.ntmps87 rfl (by first | rfl | assumption | exact bs_cl _) fun B => ?_
  repeat (first | refine W_join (x := .region 1 _ _) (fun ρ m nx => ρ = [(6, .ptr 3 0), (5, .ptr 2 0), (3, .ptr 1 0)] ∧ m = [(3, some (.var 50 (bs F))), (2, some (.var 50 (bs A))), (1, some (.var 83 X))] ∧ nx = 4) ?_ ?_ | with_reducible (first | refine W_seq ?_ | refine q_then ?_ | refine W_ret ?_) | (with_reducible refine R_nil ?_; try dsimp only [slots0, slots_ud, cells_U, agg_ud, drop0, dropS, takeS, take0, ud_nil, take_ud, take_ud0, drop_ud, drop_ud0, take_udk, D.cells, D.fz, D.fzs, List.take_succ_cons, List.take_zero, List.drop_succ_cons, List.drop_zero, List.cons_append, List.nil_append, List.append_eq, List.length_cons, List.length_nil, Nat.reduceAdd, Nat.reduceMul, Nat.reduceSub, Int.reduceAdd, Int.reduceSub, Int.reduceToNat, Int.reduceNeg, Int.reduceMul]) | refine W_plain rfl ?_ | refine W_drawn mixed rfl ?_ | refine and_chk (by kernel_rfl) ?_ | refine k_load rfl rfl rfl (f1 _) ?_ | refine k_load rfl rfl rfl (f2 _) ?_ | refine k_store rfl rfl rfl rfl (b_len lA) (b_fits _) (by exact b_put lA _ rfl) ?_ | refine k_store rfl rfl rfl rfl (b_len lF) (b_fits _) (by exact b_put lF _ rfl) ?_ | refine k_assign rfl rfl ?_ | refine k_load rfl rfl rfl rfl ?_ | refine k_alloc rfl ?_ | refine k_box rfl rfl rfl ?_ | refine k_store rfl rfl rfl rfl rfl rfl rfl ?_ | refine k_fieldAddr rfl rfl rfl ?_ | refine k_call rfl q1 rfl rfl rfl (bs_cl _) ?_ | refine k_call rfl q2 rfl rfl rfl (bs_cl _) ?_ | (refine k_append rfl rfl rfl ?_ ?_ ?_ rfl ?_ rfl rfl rfl ?_; (first | rfl | exact trivial | (show 0 < _; omega)); (first | rfl | (simp <;> omega)); (first | rfl | (simp <;> omega)); (omega)) | (refine k_sliceE rfl rfl rfl rfl ⟨?_, ?_, ?_, ?_⟩ rfl rfl rfl rfl ?_; (omega); (omega); (omega); (omega)) | refine k_buildSlice (cs := []) rfl rfl rfl rfl rfl rfl rfl ?_ | refine k_buildSlice rfl rfl rfl rfl rfl rfl rfl ?_ | refine k_loade rfl rfl rfl ?_ | refine k_fieldAddre rfl rfl rfl rfl ?_)
  · exact ⟨_, _, _, weak_sub (by repeat (first | exact trivial | refine ⟨⟨rfl, rfl⟩, ?_⟩ | refine ⟨⟨rfl, bs_bel _ _⟩, ?_⟩ | refine ⟨⟨rfl, arr_bels _ _ _⟩, ?_⟩)) (by exact ⟨⟨rfl, rfl, bels_cls _ _ (bs_cl _)⟩, ⟨rfl, rfl, bels_cls _ _ (bs_cl _)⟩, ⟨rfl, rfl, bels_cls _ _ hcl⟩, trivial⟩) (Nat.zero_le _), rfl, rfl, rfl⟩
  rintro ρ m nx ⟨rfl, rfl, rfl⟩
  refine W_of_weak (weak_fix 1 X rfl hcl (by repeat (first | exact trivial | refine ⟨⟨_, rfl, .ptr0⟩, ?_⟩ | refine ⟨⟨_, rfl, .refl _⟩, ?_⟩ | refine ⟨⟨_, rfl, .ptr _ rfl⟩, ?_⟩ | refine ⟨⟨_, rfl, .ms _ _ _ rfl⟩, ?_⟩)) (by repeat (first | exact trivial | refine ⟨⟨rfl, rfl, rfl⟩, ?_⟩)) (ρ1 := [(6, .ptr 3 0), (5, .ptr 2 0), (3, .eptr X)]) (m1 := [(3, some (.var 50 (bs F))), (2, some (.var 50 (bs A)))])) ?_
  refine W_of_weak (weak_fix 2 (bs A) rfl (bs_cl _) (by repeat (first | exact trivial | refine ⟨⟨_, rfl, .ptr0⟩, ?_⟩ | refine ⟨⟨_, rfl, .refl _⟩, ?_⟩ | refine ⟨⟨_, rfl, .ptr _ rfl⟩, ?_⟩ | refine ⟨⟨_, rfl, .ms _ _ _ rfl⟩, ?_⟩)) (by repeat (first | exact trivial | refine ⟨⟨rfl, rfl, rfl⟩, ?_⟩)) (ρ1 := [(6, .ptr 3 0), (5, .eptr (bs A)), (3, .eptr X)]) (m1 := [(3, some (.var 50 (bs F)))])) ?_
  refine W_of_weak (weak_fix 3 (bs F) rfl (bs_cl _) (by repeat (first | exact trivial | refine ⟨⟨_, rfl, .ptr0⟩, ?_⟩ | refine ⟨⟨_, rfl, .refl _⟩, ?_⟩ | refine ⟨⟨_, rfl, .ptr _ rfl⟩, ?_⟩ | refine ⟨⟨_, rfl, .ms _ _ _ rfl⟩, ?_⟩)) (by repeat (first | exact trivial | refine ⟨⟨rfl, rfl, rfl⟩, ?_⟩)) (ρ1 := [(6, .eptr (bs F)), (5, .eptr (bs A)), (3, .eptr X)]) (m1 := [])) ?_
  repeat (first | with_reducible (first | refine W_seq ?_ | refine q_then ?_ | refine W_ret ?_) | (with_reducible refine R_nil ?_; try dsimp only [slots0, slots_ud, cells_U, agg_ud, drop0, dropS, takeS, take0, ud_nil, take_ud, take_ud0, drop_ud, drop_ud0, take_udk, D.cells, D.fz, D.fzs, List.take_succ_cons, List.take_zero, List.drop_succ_cons, List.drop_zero, List.cons_append, List.nil_append, List.append_eq, List.length_cons, List.length_nil, Nat.reduceAdd, Nat.reduceMul, Nat.reduceSub, Int.reduceAdd, Int.reduceSub, Int.reduceToNat, Int.reduceNeg, Int.reduceMul]) | refine W_plain rfl ?_ | refine W_drawn mixed rfl ?_ | refine and_chk (by kernel_rfl) ?_ | refine k_fieldAddre rfl rfl rfl (hle _ (by decide)) ?_ | refine k_loade rfl rfl (g4 _) ?_ | refine k_loade rfl rfl (g6 _) ?_ | refine k_loade rfl rfl (g9 _) ?_ | (refine k_sliceE (nn := 32) rfl rfl rfl rfl ⟨?_, ?_, ?_, ?_⟩ rfl sal rfl sa ?_; (omega); (omega); (omega); (omega)) | (refine k_sliceE (nn := 32) rfl rfl rfl rfl ⟨?_, ?_, ?_, ?_⟩ rfl sfl rfl sf ?_; (omega); (omega); (omega); (omega)) | (refine k_sliceE (nn := 32) rfl rfl rfl rfl ⟨?_, ?_, ?_, ?_⟩ rfl s3l rfl s3 ?_; (omega); (omega); (omega); (omega)) | (refine k_sliceE (nn := 32) rfl rfl rfl rfl ⟨?_, ?_, ?_, ?_⟩ rfl s5l rfl s5 ?_; (omega); (omega); (omega); (omega)) | refine k_buildSlice rfl rfl rfl rfl rfl rfl rfl ?_ | refine k_assign rfl rfl ?_ | refine k_load rfl rfl rfl rfl ?_ | refine k_alloc rfl ?_ | refine k_box rfl rfl rfl ?_ | refine k_store rfl rfl rfl rfl rfl rfl rfl ?_ | refine k_fieldAddr rfl rfl rfl ?_ | refine k_call rfl q3 rfl rfl rfl rfl ?_ | refine k_call rfl q4 rfl rfl rfl rfl ?_ | refine k_call rfl q5 rfl rfl rfl rfl ?_ | (refine k_append rfl rfl rfl ?_ ?_ ?_ rfl ?_ rfl rfl rfl ?_; (first | rfl | exact trivial | (show 0 < _; omega)); (first | rfl | (simp <;> omega)); (first | rfl | (simp <;> omega)); (omega)) | (refine k_sliceE rfl rfl rfl rfl ⟨?_, ?_, ?_, ?_⟩ rfl rfl rfl rfl ?_; (omega); (omega); (omega); (omega)) | refine k_buildSlice (cs := []) rfl rfl rfl rfl rfl rfl rfl ?_ | refine k_buildSlice rfl rfl rfl rfl rfl rfl rfl ?_ | refine k_loade rfl rfl rfl ?_ | refine k_fieldAddre rfl rfl rfl rfl ?_)
  (first | with_reducible refine q_endr ?_); refine rets1 Try.results87 (by first | exact RetV.tmp _ _ rfl | exact RetV.cell _ _ _ _ _ _ _ _ inferInstance rfl rfl rfl) ?_
  rfl
end Go.Proofs.Ytcfefmbbbfdppaa
namespace Go.Proofs.Ytcfefmbbbfdppaa
open Go.RowKit Go.Lib Go.IntWalk
set_option linter.unusedVariables false
set_option maxRecDepth 100000
end Go.Proofs.Ytcfefmbbbfdppaa
namespace Go.Proofs.Ytcfefmbbbfdppaa
open Go.RowKit Go.Lib Go.IntWalk
set_option linter.unusedVariables false
set_option maxRecDepth 100000
theorem ups_app {xs ys cs ds : List D} (h : Ups xs ys) (h' : Ups cs ds) : Ups (xs ++ cs) (ys ++ ds) := by
  induction h with
  | nil => exact h'
  | cons h _ ih => exact .cons h ih
theorem ldC_ups {k : Int} {am fe : Nat} {tk : List UInt8} {ho : Int} {tp : List UInt8} {tl tl' : List D} (h : Ups tl tl') : Ups (ldC k am fe tk ho tp tl) (ldC k am fe tk ho tp tl') :=
  .cons (.refl _) (ups_app (Ups.refl _) (ups_app (Ups.refl _) (ups_app (Ups.refl _) (.cons (.refl _) (ups_app (Ups.refl _) h)))))
section
variable {T : TypeId} {v : Value} {dr : D} {F F' : FuncId} [HasFn Try.prog F] [HasFn Try.prog F'] {X Y : List D} {k : Int}
set_option maxHeartbeats 8000000 in
theorem Check_gen (f0 : ∀ ze, cut ⟨false, 1, ze⟩ 0 X = some (.int .i64 k)) (fa : ∀ ze, cut ⟨true, 80, ze⟩ 0 X = some (.agg X)) (hk : Pur Try.prog 54 [.int .i64 k] (.tup [.raw (.iface T v), .bool true]))
    (r : Bool) (hc : Pur Try.prog F [dr, .agg X] (.bool r)) (hb : Pur Try.prog F' [dr, .agg X] (.agg Y)) (hs : Pur Try.prog 62 [.agg X, .agg Y] (.bool true))
    (hm1 : ∀ w, (Go.method (Try.prog.types.size + Made.depth) T v "bascule/load.check").run Try.prog w = .ok (F, v) w) (hm2 : ∀ w, (Go.method (Try.prog.types.size + Made.depth) T v "bascule/load.bare").run Try.prog w = .ok (F', v) w)
    (hrv : ∀ G w, Rep G w dr v) (hdr : dr.fz = dr) (hcd : dr.cl = true) (hX : D.cls X = true) (hXz : D.fzs X = X) (hY : D.cls Y = true) (hYz : D.fzs Y = Y) (e : Int) (he : (if r then 0 else 3) = e) : Pur Try.prog 53 [.agg X] (.int .i64 e) := by
  have c1 : D.cls [dr, .agg X] = true := by show (dr.cl && (D.cls X && true)) = true; rw [hcd, hX]; rfl
  have c2 : D.cls [.agg X, .agg Y] = true := by show (D.cls X && (D.cls Y && true)) = true; rw [hX, hY]; rfl
  have z1 : D.fzs [.agg X] = [.agg X] := by show [D.agg (D.fzs X)] = _; rw [hXz]
  have z2 : D.fzs [.agg X, .agg Y] = [.agg X, .agg Y] := by show [D.agg (D.fzs X), D.agg (D.fzs Y)] = _; rw [hXz, hYz]
  cases r with
  | false =>
    simp only [Bool.false_eq_true, if_false] at he
    subst he
    refine pur_intro Try.func53 rfl Try.ntmps53 rfl (by first | rfl | assumption | exact bs_cl _) fun B => ?_
    repeat (first | with_reducible (first | refine W_seq ?_ | refine q_then ?_ | refine q_thenr ?_ | refine W_ret ?_ | refine W_skip ?_) | (with_reducible refine R_nil ?_; try dsimp only [slots0, slots_ud, cells_U, agg_ud, drop0, dropS, takeS, take0, ud_nil, take_ud, take_ud0, drop_ud, drop_ud0, take_udk, D.cells, D.fz, D.fzs, List.take_succ_cons, List.take_zero, List.drop_succ_cons, List.drop_zero, List.cons_append, List.nil_append, List.append_eq, List.length_cons, List.length_nil, Nat.reduceAdd, Nat.reduceMul, Nat.reduceSub, Int.reduceAdd, Int.reduceSub, Int.reduceToNat, Int.reduceNeg, Int.reduceMul]) | refine W_plain rfl ?_ | refine W_drawn mixed rfl ?_ | refine and_chk (by kernel_rfl) ?_ | refine k_load rfl rfl rfl (f0 _) ?_ | refine k_load rfl rfl rfl (fa _) ?_ | refine k_move rfl rfl ?_ | refine k_assign rfl rfl ?_ | refine k_load rfl rfl rfl rfl ?_ | refine k_box rfl rfl rfl ?_ | refine k_extract rfl rfl rfl ?_ | refine k_fieldAddr rfl rfl rfl ?_ | refine k_call rfl hk rfl rfl rfl rfl ?_ | refine k_invoke rfl hc hm1 hrv hdr rfl rfl z1 c1 rfl ?_ | (refine k_append rfl rfl rfl ?_ ?_ ?_ rfl ?_ rfl rfl rfl ?_; (first | rfl | exact trivial | (show 0 < _; omega)); (first | rfl | (simp <;> omega)); (first | rfl | (simp <;> omega)); (omega)) | refine k_pickT rfl rfl rfl ?_ | refine k_pickF rfl rfl rfl ?_ | refine k_not rfl rfl rfl ?_ | refine k_skip rfl ?_ | refine W_yes rfl ?_ | refine W_no rfl ?_)
    (first | with_reducible refine q_endr ?_); refine rets1 Try.results53 (by first | exact RetV.tmp _ _ rfl | exact RetV.cell _ _ _ _ _ _ _ _ inferInstance rfl rfl rfl) ?_
    rfl
  | true =>
    simp only [if_true] at he
    subst he
    refine pur_intro Try.func53 rfl Try.ntmps53 rfl (by first | rfl | assumption | exact bs_cl _) fun B => ?_
    repeat (first | with_reducible (first | refine W_seq ?_ | refine q_then ?_ | refine q_thenr ?_ | refine W_ret ?_ | refine W_skip ?_) | (with_reducible refine R_nil ?_; try dsimp only [slots0, slots_ud, cells_U, agg_ud, drop0, dropS, takeS, take0, ud_nil, take_ud, take_ud0, drop_ud, drop_ud0, take_udk, D.cells, D.fz, D.fzs, List.take_succ_cons, List.take_zero, List.drop_succ_cons, List.drop_zero, List.cons_append, List.nil_append, List.append_eq, List.length_cons, List.length_nil, Nat.reduceAdd, Nat.reduceMul, Nat.reduceSub, Int.reduceAdd, Int.reduceSub, Int.reduceToNat, Int.reduceNeg, Int.reduceMul]) | refine W_plain rfl ?_ | refine W_drawn mixed rfl ?_ | refine and_chk (by kernel_rfl) ?_ | refine k_load rfl rfl rfl (f0 _) ?_ | refine k_load rfl rfl rfl (fa _) ?_ | refine k_move rfl rfl ?_ | refine k_assign rfl rfl ?_ | refine k_load rfl rfl rfl rfl ?_ | refine k_box rfl rfl rfl ?_ | refine k_extract rfl rfl rfl ?_ | refine k_fieldAddr rfl rfl rfl ?_ | refine k_call rfl hk rfl rfl rfl rfl ?_ | refine k_invoke rfl hc hm1 hrv hdr rfl rfl z1 c1 rfl ?_ | refine k_invoke rfl hb hm2 hrv hdr rfl rfl z1 c1 hY ?_ | refine k_call rfl hs rfl z2 c2 rfl ?_ | (refine k_append rfl rfl rfl ?_ ?_ ?_ rfl ?_ rfl rfl rfl ?_; (first | rfl | exact trivial | (show 0 < _; omega)); (first | rfl | (simp <;> omega)); (first | rfl | (simp <;> omega)); (omega)) | refine k_pickT rfl rfl rfl ?_ | refine k_pickF rfl rfl rfl ?_ | refine k_not rfl rfl rfl ?_ | refine k_skip rfl ?_ | refine W_yes rfl ?_ | refine W_no rfl ?_)
    (first | with_reducible refine q_endr ?_); refine rets1 Try.results53 (by first | exact RetV.tmp _ _ rfl | exact RetV.cell _ _ _ _ _ _ _ _ inferInstance rfl rfl rfl) ?_
    rfl
set_option maxHeartbeats 8000000 in
theorem Encode_gen (f0 : ∀ ze, cut ⟨false, 1, ze⟩ 0 X = some (.int .i64 k)) (fa : ∀ ze, cut ⟨true, 80, ze⟩ 0 X = some (.agg X)) (hk : Pur Try.prog 54 [.int .i64 k] (.tup [.raw (.iface T v), .bool true]))
    (hC : Pur Try.prog 53 [.agg X] (.int .i64 0)) (n no : Nat) (z z1 : List D) (hp : Pur Try.prog F [dr, .agg X] (.slice .frozen n z)) (hn : n * 1 = z.length) (hn9 : n ≤ 2000) (hno : 1 + n = no) (c : UInt8) (hkc : IntKind.u8.wrap k = (c.toNat : Int)) (hz1 : [D.int .u8 (c.toNat : Int)] ++ z = z1)
    (hm1 : ∀ w, (Go.method (Try.prog.types.size + Made.depth) T v "bascule/load.put").run Try.prog w = .ok (F, v) w)
    (hrv : ∀ G w, Rep G w dr v) (hdr : dr.fz = dr) (hcd : dr.cl = true) (hX : D.cls X = true) (hXz : D.fzs X = X) : Pur Try.prog 30 [.agg X] (.tup [.slice .frozen no z1, .int .i64 0]) := by
  have c1 : D.cls [dr, .agg X] = true := by show (dr.cl && (D.cls X && true)) = true; rw [hcd, hX]; rfl
  have c2 : D.cls [.agg X] = true := by show (D.cls X && true) = true; rw [hX]; rfl
  have z2 : D.fzs [.agg X] = [.agg X] := by show [D.agg (D.fzs X)] = _; rw [hXz]
  have hsm : 1 + n ≤ 16777216 := by omega
  refine pur_intro Try.func30 rfl Try.ntmps30 rfl (by first | rfl | assumption | exact bs_cl _) fun B => ?_
  repeat (first | with_reducible (first | refine W_seq ?_ | refine q_then ?_ | refine W_ret ?_ | refine W_skip ?_) | (with_reducible refine R_nil ?_; try dsimp only [slots0, slots_ud, cells_U, agg_ud, drop0, dropS, takeS, take0, ud_nil, take_ud, take_ud0, drop_ud, drop_ud0, take_udk, D.cells, D.fz, D.fzs, List.take_succ_cons, List.take_zero, List.drop_succ_cons, List.drop_zero, List.cons_append, List.nil_append, List.append_eq, List.length_cons, List.length_nil, Nat.reduceAdd, Nat.reduceMul, Nat.reduceSub, Int.reduceAdd, Int.reduceSub, Int.reduceToNat, Int.reduceNeg, Int.reduceMul]) | refine W_plain rfl ?_ | refine W_drawn mixed rfl ?_ | refine and_chk (by kernel_rfl) ?_ | refine k_load rfl rfl rfl (f0 _) ?_ | refine k_load rfl rfl rfl (fa _) ?_ | (refine k_append rfl rfl rfl ?_ rfl hn rfl hsm rfl hno hz1 ?_; (rfl)) | refine k_move rfl rfl ?_ | refine k_assign rfl rfl ?_ | refine k_load rfl rfl rfl rfl ?_ | refine k_box rfl rfl rfl ?_ | refine k_extract rfl rfl rfl ?_ | refine k_fieldAddr rfl rfl rfl ?_ | refine k_call rfl hC rfl z2 c2 rfl ?_ | refine k_call rfl hk rfl rfl rfl rfl ?_ | refine k_conv rfl rfl hkc ?_ | refine k_invoke rfl hp hm1 hrv hdr rfl rfl z2 c1 rfl ?_ | (refine k_append rfl rfl rfl ?_ ?_ ?_ rfl ?_ rfl rfl rfl ?_; (first | rfl | exact trivial | (show 0 < _; omega)); (first | rfl | (simp <;> omega)); (first | rfl | (simp <;> omega)); (omega)) | refine k_buildSlice (cs := []) rfl rfl rfl rfl rfl rfl rfl ?_ | refine k_buildSlice rfl rfl rfl rfl rfl rfl rfl ?_ | (refine k_neqF rfl rfl rfl ?_ ?_; (omega)) | refine W_no rfl ?_)
  (first | with_reducible refine q_endr ?_); refine rets2 Try.results30 (by first | exact RetV.tmp _ _ rfl | exact RetV.cell _ _ _ _ _ _ _ _ inferInstance rfl rfl rfl) (by first | exact RetV.tmp _ _ rfl | exact RetV.cell _ _ _ _ _ _ _ _ inferInstance rfl rfl rfl) ?_ ?_
  · rfl
  · rfl
end
end Go.Proofs.Ytcfefmbbbfdppaa
namespace Go.Proofs.Ytcfefmbbbfdppaa
open Go.RowKit Go.Lib Go.IntWalk
set_option linter.unusedVariables false
set_option maxRecDepth 100000
def kN (p : Bool) : Int := if p then 3 else 1
def trL (p : Bool) (am fe : Nat) (tk : List UInt8) (hn : Nat) (tp : List UInt8) (tn : Nat) (da : List UInt8) : LoadT := ⟨kN p, am, fe, tk, hn, tp, tn, 0, ⟨#[]⟩, da, 0, 0, []⟩
theorem kind_tr (p : Bool) : Pur Try.prog 54 [.int .i64 (kN p)] (.tup [.raw (kTr p), .bool true]) := by
  cases p
  · exact kindOf_1
  · exact kindOf_3
theorem one_rep (b : Bool) (G : Gh) (w : World) : Rep G w (.agg [.bool b]) (.agg #[.bool b]) := by
  refine .agg _ _ rfl (fun d hd => ?_) (fun i d v hd hv => ?_)
  · simp at hd; subst hd; rfl
  · cases i with
    | zero =>
      have e1 : d = .bool b := by simpa using hd.symm
      have e2 : v = .bool b := by simpa using hv.symm
      subst e1 e2; exact .bool _
    | succ i => simp at hd
theorem m_tr_check (b : Bool) (w : World) : (Go.method (Try.prog.types.size + Made.depth) 132 (.agg #[.bool b]) "bascule/load.check").run Try.prog w = .ok (85, (.agg #[.bool b])) w := by kernel_rfl
theorem m_tr_bare (b : Bool) (w : World) : (Go.method (Try.prog.types.size + Made.depth) 132 (.agg #[.bool b]) "bascule/load.bare").run Try.prog w = .ok (84, (.agg #[.bool b])) w := by kernel_rfl
theorem m_tr_put (b : Bool) (w : World) : (Go.method (Try.prog.types.size + Made.depth) 132 (.agg #[.bool b]) "bascule/load.put").run Try.prog w = .ok (87, (.agg #[.bool b])) w := by kernel_rfl
theorem m_tr_get (b : Bool) (w : World) : (Go.method (Try.prog.types.size + Made.depth) 132 (.agg #[.bool b]) "bascule/load.get").run Try.prog w = .ok (86, (.agg #[.bool b])) w := by kernel_rfl
theorem cells_cl (l : LoadT) : D.cls l.cells = true := ldC_cl _ _ _ _ _ _ _ (by unfold LoadT.tl; simp [D.cls, D.cl])
theorem cells_fz (l : LoadT) : D.fzs l.cells = l.cells := by unfold LoadT.cells; rw [ldC_fzs]; rfl
theorem ld_cl (k : Int) (am fe : Nat) (tk : List UInt8) (ho : Int) (tp : List UInt8) (a b c : Int) (s : ByteArray) (d e : D) (h1 : d.cl = true) (h2 : e.cl = true) : D.cls (ldC k am fe tk ho tp [.int .i64 a, .int .i64 b, .str s, d, .int .i64 c, e]) = true := ldC_cl _ _ _ _ _ _ _ (by show (true && (true && (true && (d.cl && (true && (e.cl && true)))))) = true; rw [h1, h2]; rfl)
theorem ld_fz (k : Int) (am fe : Nat) (tk : List UInt8) (ho : Int) (tp : List UInt8) (a b c : Int) (s : ByteArray) (d e : D) (h1 : d.fz = d) (h2 : e.fz = e) : D.fzs (ldC k am fe tk ho tp [.int .i64 a, .int .i64 b, .str s, d, .int .i64 c, e]) = ldC k am fe tk ho tp [.int .i64 a, .int .i64 b, .str s, d, .int .i64 c, e] := by
  rw [ldC_fzs]
  show ldC k am fe tk ho tp [.int .i64 a, .int .i64 b, .str s, d.fz, .int .i64 c, e.fz] = _
  rw [h1, h2]
theorem Check_tr (p : Bool) (am fe : Nat) (tk : List UInt8) (hn : Nat) (tp : List UInt8) (tn : Nat) (da : List UInt8) (h1 : tk.length = 32) (h2 : tp.length = 32) (ha : am < M256) (hf : fe < M256) (hh : hn ≤ 65535) (ht : tn ≤ 65535) (e : Int)
    (he : (if decide (fe ≤ am ∧ da.length ≤ (if p then 100 else 0)) then 0 else 3) = e) : Pur Try.prog 53 [.agg (trL p am fe tk hn tp tn da).cells] (.int .i64 e) := by
  have f0 := ldC_k (kN p) am fe tk hn tp (trL p am fe tk hn tp tn da).tl
  have fa := ldC_all (k := kN p) (am := am) (fe := fe) (ho := hn) h1 h2 (trL p am fe tk hn tp tn da).tl rfl
  refine Check_gen (T := 132) (v := .agg #[.bool p]) (dr := .agg [.bool p]) f0 fa (kind_tr p) _ (tr_check p (trL p am fe tk hn tp tn da) h1 h2 ha hf _ ?_) (tr_bare p (trL p am fe tk hn tp tn da) h1 h2 _ rfl)
    (pur_upl (same_self (trL p am fe tk hn tp tn da) h1 h2 ha hf) (.cons (.refl _) (.cons (.agg_ (ldC_ups (.cons (.refl _) (.cons (.refl _) (.cons (.refl _) (.cons (.refl _) (.cons (.refl _) (.cons (.nil _) .nil)))))))) .nil)))
    (m_tr_check p) (m_tr_bare p) (one_rep p) rfl rfl (cells_cl (trL p am fe tk hn tp tn da)) (cells_fz (trL p am fe tk hn tp tn da)) (ld_cl _ _ _ _ _ _ _ _ _ _ _ _ rfl rfl) (ld_fz _ _ _ _ _ _ _ _ _ _ _ _ rfl rfl) e he
  show decide ((0 ≤ (hn : Int) ∧ (hn : Int) ≤ 65535) ∧ (0 ≤ (tn : Int) ∧ (tn : Int) ≤ 65535) ∧ fe ≤ am ∧ da.length ≤ (if p then 100 else 0)) = decide (fe ≤ am ∧ da.length ≤ (if p then 100 else 0))
  apply decide_eq_decide.2
  exact ⟨fun h => h.2.2, fun h => ⟨⟨by omega, by omega⟩, ⟨by omega, by omega⟩, h⟩⟩
theorem bs_one (c : UInt8) (l : List UInt8) : [D.int .u8 (c.toNat : Int)] ++ bs l = bs (c :: l) := rfl
def trB (p : Bool) (am fe : Nat) (tk : List UInt8) (hn : Nat) (tp : List UInt8) (tn : Nat) (da : List UInt8) : List UInt8 := (if p then 3 else 1) :: (b32 am ++ (tk ++ (toB 2 hn ++ (tp ++ (toB 2 tn ++ (b32 fe ++ da))))))
theorem Encode_tr (p : Bool) (am fe : Nat) (tk : List UInt8) (hn : Nat) (tp : List UInt8) (tn : Nat) (da : List UInt8) (h1 : tk.length = 32) (h2 : tp.length = 32) (ha : am < M256) (hf : fe < M256) (hh : hn ≤ 65535) (ht : tn ≤ 65535) (hfa : fe ≤ am) (hd : da.length ≤ (if p then 100 else 0)) (no : Nat) (hno : (trB p am fe tk hn tp tn da).length = no) :
    Pur Try.prog 30 [.agg (trL p am fe tk hn tp tn da).cells] (.tup [.slice .frozen no (bs (trB p am fe tk hn tp tn da)), .int .i64 0]) := by
  have f0 := ldC_k (kN p) am fe tk hn tp (trL p am fe tk hn tp tn da).tl
  have fa := ldC_all (k := kN p) (am := am) (fe := fe) (ho := hn) h1 h2 (trL p am fe tk hn tp tn da).tl rfl
  have hd9 : da.length ≤ 1000 := by
    cases p with
    | false => have : da.length ≤ 0 := hd; omega
    | true => have : da.length ≤ 100 := hd; omega
  have hl : (b32 am ++ (tk ++ (toB 2 hn ++ (tp ++ (toB 2 tn ++ (b32 fe ++ da)))))).length = 132 + da.length := by simp [b32_len, h1, h2, toB_2]; omega
  refine Encode_gen (T := 132) (v := .agg #[.bool p]) (dr := .agg [.bool p]) f0 fa (kind_tr p) (Check_tr p am fe tk hn tp tn da h1 h2 ha hf hh ht 0 (by rw [if_pos (decide_eq_true ⟨hfa, hd⟩)])) (132 + da.length) no _ _ (tr_put p (trL p am fe tk hn tp tn da) h1 h2 hn tn rfl rfl hh ht da.length _ rfl hd9 rfl _ rfl) ?_ (by omega) ?_ (if p then 3 else 1) ?_ ?_
    (m_tr_put p) (one_rep p) rfl rfl (cells_cl (trL p am fe tk hn tp tn da)) (cells_fz (trL p am fe tk hn tp tn da))
  · show (132 + da.length) * 1 = (bs (b32 am ++ (tk ++ (toB 2 hn ++ (tp ++ (toB 2 tn ++ (b32 fe ++ da))))))).length
    rw [bs_len, hl]; omega
  · unfold trB at hno
    rw [List.length_cons, hl] at hno; omega
  · cases p <;> rfl
  · exact bs_one _ _
end Go.Proofs.Ytcfefmbbbfdppaa
