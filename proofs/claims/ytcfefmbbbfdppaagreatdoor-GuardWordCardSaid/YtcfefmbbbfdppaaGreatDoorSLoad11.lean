/- load: get of transfer. Conditions: as said. -/
import Derived.Test.YtcfefmbbbfdppaaGreatDoorSBytes
import Derived.Test.YtcfefmbbbfdppaaGreatDoorSLoad5
import Derived.Test.YtcfefmbbbfdppaaGreatDoorSDMi
import Derived.Test.YtcfefmbbbfdppaaGreatDoorSDFix
import Derived.Test.YtcfefmbbbfdppaaGreatDoorSGate1
import Derived.Test.YtcfefmbbbfdppaaGreatDoorSUpl
namespace Go.Proofs.YtcfefmbbbfdppaaGreatDoor
open Go.RowKit Go.Lib Go.IntWalk
set_option linter.unusedVariables false
set_option maxRecDepth 100000
theorem cut_drop0 {ty : Ty} {off : Nat} {X : List D} {d : D} (h : cut ty off X = some d) : cut ty 0 (X.drop off) = some d := by
  obtain ⟨a, n, ze⟩ := ty
  unfold cut at h ⊢
  cases a with
  | false => simp only [cond_false] at h ⊢; rw [List.getElem?_drop]; exact h
  | true =>
    simp only [cond_true] at h ⊢
    rw [Nat.zero_add, List.drop_zero]
    cases hb : Nat.ble (off + n) X.length with
    | false => rw [hb] at h; cases h
    | true =>
      rw [hb, cond_true] at h
      rw [Nat.ble_eq_true_of_le (by have := Nat.le_of_ble_eq_true hb; rw [List.length_drop]; omega), cond_true]; exact h
theorem cut_part {n : Nat} {X c ze : List D} (h : cut ⟨true, n, ze⟩ 0 X = some (.agg c)) : Nat.ble (n * 1) X.length = true ∧ (X.drop ((0 : Int).toNat * 1)).take (n * 1) = c := by
  unfold cut at h
  simp only [cond_true, Nat.zero_add, List.drop_zero] at h
  cases hb : Nat.ble n X.length with
  | false => rw [hb] at h; cases h
  | true =>
    rw [hb, cond_true] at h
    rw [Nat.mul_one]
    exact ⟨hb, by injection h with h; injection h⟩
theorem bs_part (n : Nat) (l : List UInt8) (h : l.length = n) : Nat.ble (n * 1) (bs l).length = true ∧ ((bs l).drop ((0 : Int).toNat * 1)).take (n * 1) = bs l := by
  rw [Nat.mul_one]
  exact ⟨Nat.ble_eq_true_of_le (by rw [bs_len, h]; exact Nat.le_refl _), List.take_of_length_le (by rw [Nat.mul_one]; simp [bs_len, h])⟩
theorem toB_2 (n : Nat) : (toB 2 n).length = 2 := toB_len 2 n
theorem join_7 (a b c d e f g : List UInt8) (ha : a.length = 32) (hb : b.length = 32) (hc : c.length = 2) (hd : d.length = 32) (he : e.length = 2) (hf : f.length = 32) (n no : Nat) (hg : g.length = n) (hn : n ≤ 1000) (hno : 132 + n = no) (z : List D) (hz : bs (a ++ (b ++ (c ++ (d ++ (e ++ (f ++ g)))))) = z) :
    Pur Tryz.prog 136 [.slice .frozen 7 [.slice .frozen 32 (bs a), .slice .frozen 32 (bs b), .slice .frozen 2 (bs c), .slice .frozen 32 (bs d), .slice .frozen 2 (bs e), .slice .frozen 32 (bs f), .slice .frozen n (bs g)]] (.slice .frozen no z) := by
  have hfl : ([a, b, c, d, e, f, g] : List (List UInt8)).flatten = a ++ (b ++ (c ++ (d ++ (e ++ (f ++ g))))) := by simp
  have := join_ok [a, b, c, d, e, f, g] 7 rfl (by decide) (by rw [hfl]; simp [ha, hb, hc, hd, he, hf, hg]; omega) no (by rw [hfl]; simp [ha, hb, hc, hd, he, hf, hg]; omega)
  rw [hfl, hz] at this
  simp only [slsC, List.map_cons, List.map_nil, ha, hb, hc, hd, he, hf, hg] at this
  exact this
set_option maxHeartbeats 8000000 in
theorem tr_put (p : Bool) (l : LoadT) (h1 : l.tk.length = 32) (h2 : l.tp.length = 32) (hn tn : Nat) (hh : l.ho = (hn : Int)) (ht : l.tc = (tn : Int)) (hh9 : hn ≤ 65535) (ht9 : tn ≤ 65535) (n no : Nat) (hd : l.da.length = n) (hd9 : n ≤ 1000) (hno : 132 + n = no)
    (z : List D) (hz : bs (b32 l.am ++ (l.tk ++ (toB 2 hn ++ (l.tp ++ (toB 2 tn ++ (b32 l.fe ++ l.da)))))) = z) : Pur Tryz.prog 133 [.agg [.bool p], .agg l.cells] (.slice .frozen no z) := by
  unfold LoadT.cells
  have fa := ldC_all (k := l.k) (am := l.am) (fe := l.fe) (ho := l.ho) h1 h2 l.tl rfl
  have f0 := ldC_k l.k l.am l.fe l.tk l.ho l.tp l.tl
  have f1 := ldC_am l.k l.am l.fe l.tk l.ho l.tp l.tl
  have f2 := ldC_fe l.k l.am l.fe l.tk l.ho l.tp l.tl
  have f3 := ldC_tk (k := l.k) (am := l.am) (fe := l.fe) (ho := l.ho) (tp := l.tp) h1 l.tl
  have f4 := ldC_ho (k := l.k) (am := l.am) (fe := l.fe) (ho := l.ho) (tp := l.tp) h1 l.tl
  have f5 := ldC_tp (k := l.k) (am := l.am) (fe := l.fe) (ho := l.ho) h1 h2 l.tl
  have f6 := ldC_tl (k := l.k) (am := l.am) (fe := l.fe) (ho := l.ho) h1 h2 0 _ l.tl rfl 74 rfl
  have f7 := ldC_tl (k := l.k) (am := l.am) (fe := l.fe) (ho := l.ho) h1 h2 1 _ l.tl rfl 75 rfl
  have f8 := ldC_tl (k := l.k) (am := l.am) (fe := l.fe) (ho := l.ho) h1 h2 2 _ l.tl rfl 76 rfl
  have f9 := ldC_tl (k := l.k) (am := l.am) (fe := l.fe) (ho := l.ho) h1 h2 3 _ l.tl rfl 77 rfl
  have f10 := ldC_tl (k := l.k) (am := l.am) (fe := l.fe) (ho := l.ho) h1 h2 4 _ l.tl rfl 78 rfl
  have f11 := ldC_tl (k := l.k) (am := l.am) (fe := l.fe) (ho := l.ho) h1 h2 5 _ l.tl rfl 79 rfl
  have hl := ldC_len (k := l.k) (am := l.am) (fe := l.fe) (ho := l.ho) h1 h2 l.tl rfl
  have hcl : D.cls (ldC l.k l.am l.fe l.tk l.ho l.tp l.tl) = true := ldC_cl _ _ _ _ _ _ _ (by unfold LoadT.tl; simp [D.cls, D.cl])
  have hle : ∀ off, off ≤ 80 → Nat.ble off (ldC l.k l.am l.fe l.tk l.ho l.tp l.tl).length = true := fun off h => Nat.ble_eq_true_of_le (by rw [hl]; exact h)
  have g3 := cut_drop0 (ty := ⟨true, 32, []⟩) (f3 _)
  have g4 := fun ze => cut_drop0 (ty := ⟨false, 1, ze⟩) (f4 ze)
  have g5 := cut_drop0 (ty := ⟨true, 32, []⟩) (f5 _)
  have g6 := fun ze => cut_drop0 (ty := ⟨false, 1, ze⟩) (f6 ze)
  --g7 := fun ze => cut_drop0 (ty := ⟨false, 1, ze⟩) (f7 ze)
  have g9 := fun ze => cut_drop0 (ty := ⟨false, 1, ze⟩) (f9 ze)
  obtain ⟨s3l, s3⟩ := cut_part g3
  obtain ⟨s5l, s5⟩ := cut_part g5
  clear g3 g5
  have q1 := Bytes_ok l.am
  have q2 := Bytes_ok l.fe
  have q3 := two_ok hn hh9
  have q4 := two_ok tn ht9
  have q5 := join_7 _ _ _ _ _ _ _ (b32_len l.am) h1 (toB_2 hn) h2 (toB_2 tn) (b32_len l.fe) n no hd hd9 hno z hz
  have lA := b32_len l.am
  have lF := b32_len l.fe
  generalize b32 l.am = A at *
  generalize b32 l.fe = F at *
  generalize toB 2 hn = HB at *
  generalize toB 2 tn = TB at *
  obtain ⟨sal, sa⟩ := bs_part 32 A lA
  obtain ⟨sfl, sf⟩ := bs_part 32 F lF
  generalize ldC l.k l.am l.fe l.tk l.ho l.tp l.tl = X at *
  obtain ⟨k, am, fe, tk, ho, tp, tc, de, sy, da, ix, kn, kz⟩ := l
  dsimp only at *
  simp only [hh] at g4
  simp only [ht] at g6
  simp only [hd] at g9
  clear f0 f3 f4 f5 f6 f7 f8 f9 f10 f11
  refine pur_intro Tryz.func133 rfl Tryz.ntmps133 rfl (by first | rfl | assumption | exact bs_cl _) fun B => ?_
  repeat (first | refine W_join (x := .region 1 _ _) (fun ρ m nx => ρ = [(6, .ptr 3 0), (5, .ptr 2 0), (3, .ptr 1 0)] ∧ m = [(3, some (.var 48 (bs F))), (2, some (.var 48 (bs A))), (1, some (.var 99 X))] ∧ nx = 4) ?_ ?_ | refine zC ?_ | refine k_load rfl rfl rfl (f1 _) ?_ | refine k_load rfl rfl rfl (f2 _) ?_ | refine k_store rfl rfl rfl rfl (b_len lA) (b_fits _) (by exact b_put lA _ rfl) ?_ | refine k_store rfl rfl rfl rfl (b_len lF) (b_fits _) (by exact b_put lF _ rfl) ?_ | refine zA ?_ | refine k_call rfl q1 rfl rfl rfl (bs_cl _) ?_ | refine k_call rfl q2 rfl rfl rfl (bs_cl _) ?_ | refine zB ?_)
  · exact ⟨_, _, _, weak_sub (by exact zs) (by exact ⟨⟨rfl, rfl, bels_cls _ _ (bs_cl _)⟩, ⟨rfl, rfl, bels_cls _ _ (bs_cl _)⟩, ⟨rfl, rfl, bels_cls _ _ hcl⟩, trivial⟩) (Nat.zero_le _), rfl, rfl, rfl⟩
  rintro ρ m nx ⟨rfl, rfl, rfl⟩
  refine W_of_weak (weak_fix 1 X rfl hcl (by exact zsx) (by exact zmx) (ρ1 := [(6, .ptr 3 0), (5, .ptr 2 0), (3, .eptr X)]) (m1 := [(3, some (.var 48 (bs F))), (2, some (.var 48 (bs A)))])) ?_
  refine W_of_weak (weak_fix 2 (bs A) rfl (bs_cl _) (by exact zsx) (by exact zmx) (ρ1 := [(6, .ptr 3 0), (5, .eptr (bs A)), (3, .eptr X)]) (m1 := [(3, some (.var 48 (bs F)))])) ?_
  refine W_of_weak (weak_fix 3 (bs F) rfl (bs_cl _) (by exact zsx) (by exact zmx) (ρ1 := [(6, .eptr (bs F)), (5, .eptr (bs A)), (3, .eptr X)]) (m1 := [])) ?_
  repeat (first | refine zC ?_ | refine k_fieldAddre rfl rfl rfl (hle _ (by decide)) ?_ | refine k_loade rfl rfl (g4 _) ?_ | refine k_loade rfl rfl (g6 _) ?_ | refine k_loade rfl rfl (g9 _) ?_ | (refine k_sliceE (nn := 32) rfl rfl rfl rfl ⟨?_, ?_, ?_, ?_⟩ rfl sal rfl sa ?_; (omega); (omega); (omega); (omega)) | (refine k_sliceE (nn := 32) rfl rfl rfl rfl ⟨?_, ?_, ?_, ?_⟩ rfl sfl rfl sf ?_; (omega); (omega); (omega); (omega)) | (refine k_sliceE (nn := 32) rfl rfl rfl rfl ⟨?_, ?_, ?_, ?_⟩ rfl s3l rfl s3 ?_; (omega); (omega); (omega); (omega)) | (refine k_sliceE (nn := 32) rfl rfl rfl rfl ⟨?_, ?_, ?_, ?_⟩ rfl s5l rfl s5 ?_; (omega); (omega); (omega); (omega)) | refine k_buildSlice rfl rfl rfl rfl rfl rfl rfl ?_ | refine zA ?_ | refine k_call rfl q3 rfl rfl rfl rfl ?_ | refine k_call rfl q4 rfl rfl rfl rfl ?_ | refine k_call rfl q5 rfl rfl rfl rfl ?_ | refine zB ?_)
  (first | with_reducible refine q_endr ?_); refine rets1 Tryz.results133 (by exact zv) ?_
  rfl
end Go.Proofs.YtcfefmbbbfdppaaGreatDoor
namespace Go.Proofs.YtcfefmbbbfdppaaGreatDoor
open Go.RowKit Go.Lib Go.IntWalk
set_option linter.unusedVariables false
set_option maxRecDepth 100000
theorem ups_app {xs ys cs ds : List D} (h : Ups xs ys) (h' : Ups cs ds) : Ups (xs ++ cs) (ys ++ ds) := by
  induction h with
  | nil => exact h'
  | cons h _ ih => exact .cons h ih
theorem ldC_ups {k : Int} {am fe : Nat} {tk : List UInt8} {ho : Int} {tp : List UInt8} {tl tl' : List D} (h : Ups tl tl') : Ups (ldC k am fe tk ho tp tl) (ldC k am fe tk ho tp tl') :=
  .cons (.refl _) (ups_app (Ups.refl _) (ups_app (Ups.refl _) (ups_app (Ups.refl _) (.cons (.refl _) (ups_app (Ups.refl _) h)))))
section
variable {T : TypeId} {v : Value} {dr : D} {F F' : FuncId} [HasFn Tryz.prog F] [HasFn Tryz.prog F'] {X Y : List D} {k : Int}
set_option maxHeartbeats 8000000 in
theorem Check_gen (f0 : ∀ ze, cut ⟨false, 1, ze⟩ 0 X = some (.int .i64 k)) (fa : ∀ ze, cut ⟨true, 80, ze⟩ 0 X = some (.agg X)) (hk : Pur Tryz.prog 80 [.int .i64 k] (.tup [.raw (.iface T v), .bool true]))
    (r : Bool) (hc : Pur Tryz.prog F [dr, .agg X] (.bool r)) (hb : Pur Tryz.prog F' [dr, .agg X] (.agg Y)) (hs : Pur Tryz.prog 104 [.agg X, .agg Y] (.bool true))
    (hm1 : ∀ w, (Go.method (Tryz.prog.types.size + Made.depth) T v "bascule/load.check").run Tryz.prog w = .ok (F, v) w) (hm2 : ∀ w, (Go.method (Tryz.prog.types.size + Made.depth) T v "bascule/load.bare").run Tryz.prog w = .ok (F', v) w)
    (hrv : ∀ G w, Rep G w dr v) (hdr : dr.fz = dr) (hcd : dr.cl = true) (hX : D.cls X = true) (hXz : D.fzs X = X) (hY : D.cls Y = true) (hYz : D.fzs Y = Y) (e : Int) (he : (if r then 0 else 3) = e) : Pur Tryz.prog 79 [.agg X] (.int .i64 e) := by
  have c1 : D.cls [dr, .agg X] = true := by show (dr.cl && (D.cls X && true)) = true; rw [hcd, hX]; rfl
  have c2 : D.cls [.agg X, .agg Y] = true := by show (D.cls X && (D.cls Y && true)) = true; rw [hX, hY]; rfl
  have z1 : D.fzs [.agg X] = [.agg X] := by show [D.agg (D.fzs X)] = _; rw [hXz]
  have z2 : D.fzs [.agg X, .agg Y] = [.agg X, .agg Y] := by show [D.agg (D.fzs X), D.agg (D.fzs Y)] = _; rw [hXz, hYz]
  cases r with
  | false =>
    simp only [Bool.false_eq_true, if_false] at he
    subst he
    refine pur_intro Tryz.func79 rfl Tryz.ntmps79 rfl (by first | rfl | assumption | exact bs_cl _) fun B => ?_
    repeat (first | refine zC ?_ | refine k_load rfl rfl rfl (f0 _) ?_ | refine k_load rfl rfl rfl (fa _) ?_ | refine zA ?_ | refine k_call rfl hk rfl rfl rfl rfl ?_ | refine k_invoke rfl hc hm1 hrv hdr rfl rfl z1 c1 rfl ?_ | refine zB ?_)
    (first | with_reducible refine q_endr ?_); refine rets1 Tryz.results79 (by exact zv) ?_
    rfl
  | true =>
    simp only [if_true] at he
    subst he
    refine pur_intro Tryz.func79 rfl Tryz.ntmps79 rfl (by first | rfl | assumption | exact bs_cl _) fun B => ?_
    repeat (first | refine zC ?_ | refine k_load rfl rfl rfl (f0 _) ?_ | refine k_load rfl rfl rfl (fa _) ?_ | refine zA ?_ | refine k_call rfl hk rfl rfl rfl rfl ?_ | refine k_invoke rfl hc hm1 hrv hdr rfl rfl z1 c1 rfl ?_ | refine k_invoke rfl hb hm2 hrv hdr rfl rfl z1 c1 hY ?_ | refine k_call rfl hs rfl z2 c2 rfl ?_ | refine zB ?_)
    (first | with_reducible refine q_endr ?_); refine rets1 Tryz.results79 (by exact zv) ?_
    rfl
set_option maxHeartbeats 8000000 in
theorem Encode_gen (f0 : ∀ ze, cut ⟨false, 1, ze⟩ 0 X = some (.int .i64 k)) (fa : ∀ ze, cut ⟨true, 80, ze⟩ 0 X = some (.agg X)) (hk : Pur Tryz.prog 80 [.int .i64 k] (.tup [.raw (.iface T v), .bool true]))
    (hC : Pur Tryz.prog 79 [.agg X] (.int .i64 0)) (n no : Nat) (z z1 : List D) (hp : Pur Tryz.prog F [dr, .agg X] (.slice .frozen n z)) (hn : n * 1 = z.length) (hn9 : n ≤ 2000) (hno : 1 + n = no) (c : UInt8) (hkc : IntKind.u8.wrap k = (c.toNat : Int)) (hz1 : [D.int .u8 (c.toNat : Int)] ++ z = z1)
    (hm1 : ∀ w, (Go.method (Tryz.prog.types.size + Made.depth) T v "bascule/load.put").run Tryz.prog w = .ok (F, v) w)
    (hrv : ∀ G w, Rep G w dr v) (hdr : dr.fz = dr) (hcd : dr.cl = true) (hX : D.cls X = true) (hXz : D.fzs X = X) : Pur Tryz.prog 42 [.agg X] (.tup [.slice .frozen no z1, .int .i64 0]) := by
  have c1 : D.cls [dr, .agg X] = true := by show (dr.cl && (D.cls X && true)) = true; rw [hcd, hX]; rfl
  have c2 : D.cls [.agg X] = true := by show (D.cls X && true) = true; rw [hX]; rfl
  have z2 : D.fzs [.agg X] = [.agg X] := by show [D.agg (D.fzs X)] = _; rw [hXz]
  have hsm : 1 + n ≤ 16777216 := by omega
  refine pur_intro Tryz.func42 rfl Tryz.ntmps42 rfl (by first | rfl | assumption | exact bs_cl _) fun B => ?_
  repeat (first | refine zC ?_ | refine k_load rfl rfl rfl (f0 _) ?_ | refine k_load rfl rfl rfl (fa _) ?_ | (refine k_append rfl rfl rfl ?_ rfl hn rfl hsm rfl hno hz1 ?_; (rfl)) | refine zA ?_ | refine k_call rfl hC rfl z2 c2 rfl ?_ | refine k_call rfl hk rfl rfl rfl rfl ?_ | refine k_conv rfl rfl hkc ?_ | refine k_invoke rfl hp hm1 hrv hdr rfl rfl z2 c1 rfl ?_ | refine zB ?_)
  (first | with_reducible refine q_endr ?_); refine rets2 Tryz.results42 (by exact zv) (by exact zv) ?_ ?_
  · rfl
  · rfl
end
end Go.Proofs.YtcfefmbbbfdppaaGreatDoor
namespace Go.Proofs.YtcfefmbbbfdppaaGreatDoor
open Go.RowKit Go.Lib Go.IntWalk
set_option linter.unusedVariables false
set_option maxRecDepth 100000
def kN (p : Bool) : Int := if p then 3 else 1
def trL (p : Bool) (am fe : Nat) (tk : List UInt8) (hn : Nat) (tp : List UInt8) (tn : Nat) (da : List UInt8) : LoadT := ⟨kN p, am, fe, tk, hn, tp, tn, 0, ⟨#[]⟩, da, 0, 0, []⟩
theorem kind_tr (p : Bool) : Pur Tryz.prog 80 [.int .i64 (kN p)] (.tup [.raw (kTr p), .bool true]) := by
  cases p
  · exact kindOf_1
  · exact kindOf_3
theorem one_rep (b : Bool) (G : Gh) (w : World) : Rep G w (.agg [.bool b]) (.agg #[.bool b]) := by
  refine .agg _ _ rfl (fun d hd => ?_) (fun i d v hd hv => ?_)
  · simp at hd; subst hd; rfl
  · cases i with
    | zero =>
      have e1 : d = .bool b := by simpa using hd.symm
      have e2 : v = .bool b := by simpa using hv.symm
      subst e1 e2; exact .bool _
    | succ i => simp at hd
theorem m_tr_check (b : Bool) (w : World) : (Go.method (Tryz.prog.types.size + Made.depth) 180 (.agg #[.bool b]) "bascule/load.check").run Tryz.prog w = .ok (131, (.agg #[.bool b])) w := by kernel_rfl
theorem m_tr_bare (b : Bool) (w : World) : (Go.method (Tryz.prog.types.size + Made.depth) 180 (.agg #[.bool b]) "bascule/load.bare").run Tryz.prog w = .ok (130, (.agg #[.bool b])) w := by kernel_rfl
theorem m_tr_put (b : Bool) (w : World) : (Go.method (Tryz.prog.types.size + Made.depth) 180 (.agg #[.bool b]) "bascule/load.put").run Tryz.prog w = .ok (133, (.agg #[.bool b])) w := by kernel_rfl
theorem m_tr_get (b : Bool) (w : World) : (Go.method (Tryz.prog.types.size + Made.depth) 180 (.agg #[.bool b]) "bascule/load.get").run Tryz.prog w = .ok (132, (.agg #[.bool b])) w := by kernel_rfl
theorem cells_cl (l : LoadT) : D.cls l.cells = true := ldC_cl _ _ _ _ _ _ _ (by unfold LoadT.tl; simp [D.cls, D.cl])
theorem cells_fz (l : LoadT) : D.fzs l.cells = l.cells := by unfold LoadT.cells; rw [ldC_fzs]; rfl
theorem ld_cl (k : Int) (am fe : Nat) (tk : List UInt8) (ho : Int) (tp : List UInt8) (a b c : Int) (s : ByteArray) (d e : D) (h1 : d.cl = true) (h2 : e.cl = true) : D.cls (ldC k am fe tk ho tp [.int .i64 a, .int .i64 b, .str s, d, .int .i64 c, e]) = true := ldC_cl _ _ _ _ _ _ _ (by show (true && (true && (true && (d.cl && (true && (e.cl && true)))))) = true; rw [h1, h2]; rfl)
theorem ld_fz (k : Int) (am fe : Nat) (tk : List UInt8) (ho : Int) (tp : List UInt8) (a b c : Int) (s : ByteArray) (d e : D) (h1 : d.fz = d) (h2 : e.fz = e) : D.fzs (ldC k am fe tk ho tp [.int .i64 a, .int .i64 b, .str s, d, .int .i64 c, e]) = ldC k am fe tk ho tp [.int .i64 a, .int .i64 b, .str s, d, .int .i64 c, e] := by
  rw [ldC_fzs]
  show ldC k am fe tk ho tp [.int .i64 a, .int .i64 b, .str s, d.fz, .int .i64 c, e.fz] = _
  rw [h1, h2]
theorem Check_tr (p : Bool) (am fe : Nat) (tk : List UInt8) (hn : Nat) (tp : List UInt8) (tn : Nat) (da : List UInt8) (h1 : tk.length = 32) (h2 : tp.length = 32) (ha : am < M256) (hf : fe < M256) (hh : hn ≤ 65535) (ht : tn ≤ 65535) (e : Int)
    (he : (if decide (fe ≤ am ∧ da.length ≤ (if p then 100 else 0)) then 0 else 3) = e) : Pur Tryz.prog 79 [.agg (trL p am fe tk hn tp tn da).cells] (.int .i64 e) := by
  have f0 := ldC_k (kN p) am fe tk hn tp (trL p am fe tk hn tp tn da).tl
  have fa := ldC_all (k := kN p) (am := am) (fe := fe) (ho := hn) h1 h2 (trL p am fe tk hn tp tn da).tl rfl
  refine Check_gen (T := 180) (v := .agg #[.bool p]) (dr := .agg [.bool p]) f0 fa (kind_tr p) _ (tr_check p (trL p am fe tk hn tp tn da) h1 h2 ha hf _ ?_) (tr_bare p (trL p am fe tk hn tp tn da) h1 h2 _ rfl)
    (pur_upl (same_self (trL p am fe tk hn tp tn da) h1 h2 ha hf) (.cons (.refl _) (.cons (.agg_ (ldC_ups (.cons (.refl _) (.cons (.refl _) (.cons (.refl _) (.cons (.refl _) (.cons (.refl _) (.cons (.nil _) .nil)))))))) .nil)))
    (m_tr_check p) (m_tr_bare p) (one_rep p) rfl rfl (cells_cl (trL p am fe tk hn tp tn da)) (cells_fz (trL p am fe tk hn tp tn da)) (ld_cl _ _ _ _ _ _ _ _ _ _ _ _ rfl rfl) (ld_fz _ _ _ _ _ _ _ _ _ _ _ _ rfl rfl) e he
  show decide ((0 ≤ (hn : Int) ∧ (hn : Int) ≤ 65535) ∧ (0 ≤ (tn : Int) ∧ (tn : Int) ≤ 65535) ∧ fe ≤ am ∧ da.length ≤ (if p then 100 else 0)) = decide (fe ≤ am ∧ da.length ≤ (if p then 100 else 0))
  apply decide_eq_decide.2
  exact ⟨fun h => h.2.2, fun h => ⟨⟨by omega, by omega⟩, ⟨by omega, by omega⟩, h⟩⟩
theorem bs_one (c : UInt8) (l : List UInt8) : [D.int .u8 (c.toNat : Int)] ++ bs l = bs (c :: l) := rfl
def trB (p : Bool) (am fe : Nat) (tk : List UInt8) (hn : Nat) (tp : List UInt8) (tn : Nat) (da : List UInt8) : List UInt8 := (if p then 3 else 1) :: (b32 am ++ (tk ++ (toB 2 hn ++ (tp ++ (toB 2 tn ++ (b32 fe ++ da))))))
theorem Encode_tr (p : Bool) (am fe : Nat) (tk : List UInt8) (hn : Nat) (tp : List UInt8) (tn : Nat) (da : List UInt8) (h1 : tk.length = 32) (h2 : tp.length = 32) (ha : am < M256) (hf : fe < M256) (hh : hn ≤ 65535) (ht : tn ≤ 65535) (hfa : fe ≤ am) (hd : da.length ≤ (if p then 100 else 0)) (no : Nat) (hno : (trB p am fe tk hn tp tn da).length = no) :
    Pur Tryz.prog 42 [.agg (trL p am fe tk hn tp tn da).cells] (.tup [.slice .frozen no (bs (trB p am fe tk hn tp tn da)), .int .i64 0]) := by
  have f0 := ldC_k (kN p) am fe tk hn tp (trL p am fe tk hn tp tn da).tl
  have fa := ldC_all (k := kN p) (am := am) (fe := fe) (ho := hn) h1 h2 (trL p am fe tk hn tp tn da).tl rfl
  have hd9 : da.length ≤ 1000 := by
    cases p with
    | false => have : da.length ≤ 0 := hd; omega
    | true => have : da.length ≤ 100 := hd; omega
  have hl : (b32 am ++ (tk ++ (toB 2 hn ++ (tp ++ (toB 2 tn ++ (b32 fe ++ da)))))).length = 132 + da.length := by simp [b32_len, h1, h2, toB_2]; omega
  refine Encode_gen (T := 180) (v := .agg #[.bool p]) (dr := .agg [.bool p]) f0 fa (kind_tr p) (Check_tr p am fe tk hn tp tn da h1 h2 ha hf hh ht 0 (by rw [if_pos (decide_eq_true ⟨hfa, hd⟩)])) (132 + da.length) no _ _ (tr_put p (trL p am fe tk hn tp tn da) h1 h2 hn tn rfl rfl hh ht da.length _ rfl hd9 rfl _ rfl) ?_ (by omega) ?_ (if p then 3 else 1) ?_ ?_
    (m_tr_put p) (one_rep p) rfl rfl (cells_cl (trL p am fe tk hn tp tn da)) (cells_fz (trL p am fe tk hn tp tn da))
  · show (132 + da.length) * 1 = (bs (b32 am ++ (tk ++ (toB 2 hn ++ (tp ++ (toB 2 tn ++ (b32 fe ++ da))))))).length
    rw [bs_len, hl]; omega
  · unfold trB at hno
    rw [List.length_cons, hl] at hno; omega
  · cases p <;> rfl
  · exact bs_one _ _
end Go.Proofs.YtcfefmbbbfdppaaGreatDoor
namespace Go.Proofs.YtcfefmbbbfdppaaGreatDoor
open Go.RowKit Go.Lib Go.IntWalk
set_option linter.unusedVariables false
set_option maxRecDepth 100000
theorem bs_mid (b pre mid post : List UInt8) (h : b = pre ++ (mid ++ post)) (i n : Nat) (hi : pre.length = i) (hn : mid.length = n) : ((bs b).drop i).take n = bs mid := by
  subst h hi hn
  unfold bs
  rw [← List.map_drop, ← List.map_take, List.drop_left, List.take_left]
theorem bs_nth (b pre post : List UInt8) (c : UInt8) (h : b = pre ++ (c :: post)) (i : Nat) (hi : pre.length = i) (ze : List D) : cut ⟨false, 1, ze⟩ 0 ((bs b).drop i) = some (.int .u8 (c.toNat : Int)) := by
  subst h hi
  unfold cut
  simp only [cond_false, List.getElem?_drop, Nat.add_zero]
  refine bs_get _ _ _ ?_
  rw [List.getElem?_append_right (Nat.le_refl _), Nat.sub_self]; rfl
theorem or_i64 (X y i p : Nat) (hp : 2 ^ i = p) (hy : y < p) (hX : X * p + y < 9223372036854775808) : bitw .or .i64 ((X * p : Nat) : Int) (y : Int) = ((X * p + y : Nat) : Int) := by
  subst hp
  have hor : X * 2 ^ i ||| y = X * 2 ^ i + y := by
    have := Nat.shiftLeft_add_eq_or_of_lt (i := i) (b := y) hy X
    rw [Nat.shiftLeft_eq] at this
    exact this.symm
  generalize X * 2 ^ i = x at *
  have f1 : (BitVec.ofInt 64 (x : Int)).toNat = x := by rw [BitVec.toNat_ofInt]; omega
  have f2 : (BitVec.ofInt 64 (y : Int)).toNat = y := by rw [BitVec.toNat_ofInt]; omega
  show IntKind.i64.wrap (((BitVec.ofInt 64 (x : Int) ||| BitVec.ofInt 64 (y : Int)).toNat : Nat) : Int) = _
  rw [BitVec.toNat_or, f1, f2, hor, i64_in _ (by omega)]
theorem shl_i64 (x k p : Nat) (hk : k ≤ 64) (hp : 2 ^ k = p) (h : x * p < 9223372036854775808) : IntKind.i64.wrap ((x : Int) * 2 ^ (min (k : Int).toNat IntKind.i64.bits)) = ((x * p : Nat) : Int) := by
  have : min ((k : Int)).toNat IntKind.i64.bits = k := by rw [Int.toNat_natCast]; exact Nat.min_eq_left hk
  subst hp
  have e : (x : Int) * 2 ^ k = ((x * 2 ^ k : Nat) : Int) := by norm_cast
  rw [this, e]
  generalize x * 2 ^ k = n at *
  exact i64_in _ (by omega)
theorem nm_2 (x y : UInt8) : nm [x, y] = x.toNat * 256 + y.toNat := by simp [nm]
theorem ld0_fz : D.fzs ld0 = ld0 := by rw [ldC_fzs]; rfl
theorem fill_tg (am fe : Nat) (tk : List UInt8) (ho : Int) (tp : List UInt8) (tc : Int) (t : Tok) (n : Nat) (z : List D) (h1 : tk.length = 32) (h2 : tp.length = 32) :
    dfill ldPl ld0 [(1, U am), (3, .agg (bs tk)), (4, .int .i64 ho), (5, .agg (bs tp)), (6, .int .i64 tc), (2, U fe), (9, .slice t n z)] = some (ldC 0 am fe tk ho tp [.int .i64 tc, .int .i64 0, .str ⟨#[]⟩, .slice t n z, .int .i64 0, .slice .nil 0 []]) := by
  obtain ⟨f, rfl⟩ := list32x tk h1
  obtain ⟨g, rfl⟩ := list32x tp h2
  kernel_rfl
set_option maxHeartbeats 16000000 in
theorem tr_get (p : Bool) (A tk : List UInt8) (x1 x2 : UInt8) (tp : List UInt8) (y1 y2 : UInt8) (F da b : List UInt8) (hA : A.length = 32) (h1 : tk.length = 32) (h2 : tp.length = 32) (hF : F.length = 32) (hb : b = A ++ (tk ++ (x1 :: x2 :: (tp ++ (y1 :: y2 :: (F ++ da)))))) (L n : Nat) (hL : b.length = L) (hn : da.length = n) (hL9 : L ≤ 140737488355300)
    (am fe hh th : Nat) (ham : nm A = am) (hfe : nm F = fe) (hhh : nm [x1, x2] = hh) (hth : nm [y1, y2] = th) :
    Pur Tryz.prog 132 [.agg [.bool p], .slice .frozen L (bs b)] (.tup [.agg (ldC 0 am fe tk hh tp [.int .i64 th, .int .i64 0, .str ⟨#[]⟩, .slice .frozen n (bs da), .int .i64 0, .slice .nil 0 []]), .int .i64 0]) := by
  have hLn : L = 132 + n := by rw [← hL, hb]; simp [hA, h1, h2, hF, hn]; omega
  have hz : L * 1 = (bs b).length := by rw [bs_len, hL]; omega
  have a1 := x1.toNat_lt
  have a2 := x2.toNat_lt
  have a3 := y1.toNat_lt
  have a4 := y2.toNat_lt
  have p1 : ((bs b).drop ((0 : Int).toNat * 1)).take (32 * 1) = bs A := bs_mid b [] A _ (by rw [hb]; rfl) _ _ rfl hA
  have p2 : ((bs b).drop ((32 : Int).toNat * 1)).take (32 * 1) = bs tk := bs_mid b A tk _ hb _ _ hA h1
  have p3 : ((bs b).drop ((66 : Int).toNat * 1)).take (32 * 1) = bs tp := bs_mid b (A ++ (tk ++ [x1, x2])) tp (y1 :: y2 :: (F ++ da)) (by rw [hb]; simp) _ _ (by simp [hA, h1]) h2
  have p4 : ((bs b).drop ((100 : Int).toNat * 1)).take (32 * 1) = bs F := bs_mid b (A ++ (tk ++ (x1 :: x2 :: (tp ++ [y1, y2])))) F da (by rw [hb]; simp) _ _ (by simp [hA, h1, h2]) hF
  have p5 : ((bs b).drop ((132 : Int).toNat * 1)).take (n * 1) = bs da := bs_mid b (A ++ (tk ++ (x1 :: x2 :: (tp ++ (y1 :: y2 :: F))))) da [] (by rw [hb]; simp) _ _ (by simp [hA, h1, h2, hF]) (by rw [hn]; omega)
  have i1 : ∀ ze, cut ⟨false, 1, ze⟩ 0 ((bs b).drop ((64 : Int).toNat * 1)) = some (.int .u8 (x1.toNat : Int)) := bs_nth b (A ++ tk) (x2 :: (tp ++ (y1 :: y2 :: (F ++ da)))) x1 (by rw [hb, List.append_assoc]) _ (by simp [hA, h1])
  have i2 : ∀ ze, cut ⟨false, 1, ze⟩ 0 ((bs b).drop ((65 : Int).toNat * 1)) = some (.int .u8 (x2.toNat : Int)) := bs_nth b (A ++ (tk ++ [x1])) (tp ++ (y1 :: y2 :: (F ++ da))) x2 (by rw [hb]; simp) _ (by simp [hA, h1])
  have i3 : ∀ ze, cut ⟨false, 1, ze⟩ 0 ((bs b).drop ((98 : Int).toNat * 1)) = some (.int .u8 (y1.toNat : Int)) := bs_nth b (A ++ (tk ++ (x1 :: x2 :: tp))) (y2 :: (F ++ da)) y1 (by rw [hb]; simp) _ (by simp [hA, h1, h2])
  have i4 : ∀ ze, cut ⟨false, 1, ze⟩ 0 ((bs b).drop ((99 : Int).toNat * 1)) = some (.int .u8 (y2.toNat : Int)) := bs_nth b (A ++ (tk ++ (x1 :: x2 :: (tp ++ [y1])))) (F ++ da) y2 (by rw [hb]; simp) _ (by simp [hA, h1, h2])
  rw [nm_2] at hhh hth
  have w1 := lword_ok A (by omega) 32 hA
  have w2 := lword_ok tk (by omega) 32 h1
  have w3 := lword_ok tp (by omega) 32 h2
  have w4 := lword_ok F (by omega) 32 hF
  rw [pad_32 _ hA] at w1
  rw [pad_32 _ h1] at w2
  rw [pad_32 _ h2] at w3
  rw [pad_32 _ hF] at w4
  have v1 := From_ok A hA
  have v4 := From_ok F hF
  rw [ham] at v1
  rw [hfe] at v4
  generalize x1.toNat = X1 at *
  generalize x2.toNat = X2 at *
  generalize y1.toNat = Y1 at *
  generalize y2.toNat = Y2 at *
  have c1 : IntKind.i64.wrap (X1 : Int) = (X1 : Int) := i64_in _ (by omega)
  have c2 : IntKind.i64.wrap (X2 : Int) = (X2 : Int) := i64_in _ (by omega)
  have c3 : IntKind.i64.wrap (Y1 : Int) = (Y1 : Int) := i64_in _ (by omega)
  have c4 : IntKind.i64.wrap (Y2 : Int) = (Y2 : Int) := i64_in _ (by omega)
  have s1 := shl_i64 X1 8 256 (by decide) (by decide) (by omega)
  have s2 := shl_i64 Y1 8 256 (by decide) (by decide) (by omega)
  have o1 := or_i64 X1 X2 8 256 (by decide) a2 (by omega)
  have o2 := or_i64 Y1 Y2 8 256 (by decide) a4 (by omega)
  rw [hhh] at o1
  rw [hth] at o2
  have hq : ((L : Int) - 132).toNat = n := by omega
  have hnz : n * 1 = (bs da).length := by rw [bs_len, hn]; omega
  have hlA := ldC_all (k := 0) (am := am) (fe := fe) (ho := hh) h1 h2
  have hf := fill_tg am fe tk hh tp th (.own 3) n (bs da) h1 h2
  have hlen := ldC_len (k := 0) (am := am) (fe := fe) (ho := hh) h1 h2
  have hlay := ldC_lay (k := 0) (am := am) (fe := fe) (ho := hh) h1 h2
  generalize bs b = Z at *
  have hsm : 0 + n ≤ 140737488355328 := by omega
  have hsm2 : (0 + n) * 1 ≤ 140737488355328 := by omega
  have hcl : (D.tup [.agg (ldC 0 am fe tk hh tp [.int .i64 th, .int .i64 0, .str ⟨#[]⟩, .slice .frozen n (bs da), .int .i64 0, .slice .nil 0 []]), .int .i64 0]).cl = true := by
    show (D.cls _ && true) = true
    rw [ld_cl _ _ _ _ _ _ _ _ _ _ _ _ rfl rfl]; rfl
  clear hhh hth ham hfe hb
  refine pur_intro Tryz.func132 rfl Tryz.ntmps132 rfl hcl fun B => ?_
  repeat (first | refine zC ?_ | (refine k_slice (nn := 32) rfl rfl rfl rfl ⟨?_, ?_, ?_⟩ hz rfl p1 ?_; (omega); (omega); (omega)) | (refine k_slice (nn := 32) rfl rfl rfl rfl ⟨?_, ?_, ?_⟩ hz rfl p2 ?_; (omega); (omega); (omega)) | (refine k_slice (nn := 32) rfl rfl rfl rfl ⟨?_, ?_, ?_⟩ hz rfl p3 ?_; (omega); (omega); (omega)) | (refine k_slice (nn := 32) rfl rfl rfl rfl ⟨?_, ?_, ?_⟩ hz rfl p4 ?_; (omega); (omega); (omega)) | (refine k_slice (nn := n) rfl rfl rfl rfl ⟨?_, ?_, ?_⟩ hz hq p5 ?_; (omega); (omega); (omega)) | (refine k_indexAddrs rfl rfl rfl ⟨?_, ?_⟩ hz ?_; (omega); (omega)) | refine k_loade rfl rfl (i1 _) ?_ | refine k_loade rfl rfl (i2 _) ?_ | refine k_loade rfl rfl (i3 _) ?_ | refine k_loade rfl rfl (i4 _) ?_ | (refine k_appendB rfl rfl rfl ?_ rfl hnz rfl hsm hsm2 (Nat.zero_add _) rfl ?_; (rfl)) | refine k_build rfl rfl hf ?_ | refine k_store rfl rfl rfl rfl (by exact hlen _ rfl) rfl (by exact hlay _ rfl _ rfl) ?_ | refine zA ?_ | refine k_conv rfl rfl c1 ?_ | refine k_conv rfl rfl c2 ?_ | refine k_conv rfl rfl c3 ?_ | refine k_conv rfl rfl c4 ?_ | (refine k_shl rfl rfl rfl ?_ s1 ?_; (decide)) | (refine k_shl rfl rfl rfl ?_ s2 ?_; (decide)) | refine k_bits rfl rfl rfl rfl o1 ?_ | refine k_bits rfl rfl rfl rfl o2 ?_ | refine k_call rfl w1 rfl rfl rfl (bs_cl _) ?_ | refine k_call rfl w2 rfl rfl rfl (bs_cl _) ?_ | refine k_call rfl w3 rfl rfl rfl (bs_cl _) ?_ | refine k_call rfl w4 rfl rfl rfl (bs_cl _) ?_ | refine k_call rfl v1 rfl (b_fz1 _) (b_cl1 _) rfl ?_ | refine k_call rfl v4 rfl (b_fz1 _) (b_cl1 _) rfl ?_ | refine zB ?_)
  (first | with_reducible refine q_endr ?_); refine rets2 Tryz.results132 (RetV.cell _ _ _ _ _ _ _ _ inferInstance rfl rfl (by exact hlA _ rfl _)) (RetV.tmp _ _ rfl) ?_ rfl
  show D.agg (D.fzs (ldC _ _ _ _ _ _ _)) = _
  rw [ldC_fzs]; rfl
end Go.Proofs.YtcfefmbbbfdppaaGreatDoor
