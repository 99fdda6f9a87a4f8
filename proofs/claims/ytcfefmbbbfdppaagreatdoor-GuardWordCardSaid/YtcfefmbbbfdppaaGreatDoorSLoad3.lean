/- load: the kinds' own methods bare and check. Conditions: as said. -/
import Derived.Test.YtcfefmbbbfdppaaGreatDoorSBytes
import Derived.Test.YtcfefmbbbfdppaaGreatDoorSDCpy
import Derived.Test.YtcfefmbbbfdppaaGreatDoorSWide1
import Derived.Test.YtcfefmbbbfdppaaGreatDoorSGate1
import Derived.Test.YtcfefmbbbfdppaaGreatDoorSDFix
namespace Go.Proofs.YtcfefmbbbfdppaaGreatDoor
open Go.RowKit Go.Lib Go.IntWalk
set_option linter.unusedVariables false
set_option maxRecDepth 100000
def kTr (p : Bool) : Value := .iface 180 (.agg #[.bool p])
theorem one_val (b : Bool) (G : Gh) (w : World) (u : Value) (h : Rep G w (.agg [.bool b]) u) : u = .agg #[.bool b] := by
  cases h with
  | agg ds vs hl h1 hh =>
    have hs : vs.size = 1 := hl
    obtain ⟨v, hv⟩ : ∃ v, vs = #[v] := by
      refine ⟨vs[0], ?_⟩
      apply Array.ext
      · simp [hs]
      · intro i h1 h2
        have : i = 0 := by omega
        subst this; rfl
    subst hv
    have := hh 0 (.bool b) v rfl rfl
    cases this
    rfl
theorem kindOf_1 : Pur Tryz.prog 80 [.int .i64 1] (.tup [.raw (kTr false), .bool true]) := by
  refine pur_intro Tryz.func80 rfl Tryz.ntmps80 rfl (by first | rfl | assumption | exact bs_cl _) fun B => ?_
  repeat (first | refine zC ?_ | refine zA ?_ | refine k_makeI rfl Tryz.underlying180 rfl (one_val _) ?_ | refine zB ?_)
  (first | with_reducible refine q_endr ?_); refine rets2 Tryz.results80 (by exact zv) (by exact zv) ?_ ?_
  · rfl
  · rfl
theorem kindOf_3 : Pur Tryz.prog 80 [.int .i64 3] (.tup [.raw (kTr true), .bool true]) := by
  refine pur_intro Tryz.func80 rfl Tryz.ntmps80 rfl (by first | rfl | assumption | exact bs_cl _) fun B => ?_
  repeat (first | refine zC ?_ | refine zA ?_ | refine k_makeI rfl Tryz.underlying180 rfl (one_val _) ?_ | refine zB ?_)
  (first | with_reducible refine q_endr ?_); refine rets2 Tryz.results80 (by exact zv) (by exact zv) ?_ ?_
  · rfl
  · rfl
theorem small_ok (n m : Int) (r : Bool) (hr : decide (0 ≤ n ∧ n ≤ m) = r) : Pur Tryz.prog 134 [.int .i64 n, .int .i64 m] (.bool r) := by
  subst hr
  by_cases h0 : 0 ≤ n
  · have e2 : decide (n ≤ m) = decide (0 ≤ n ∧ n ≤ m) := by simp [h0]
    have e1 : decide (n ≥ 0) = true := by simp; omega
    generalize decide (0 ≤ n ∧ n ≤ m) = r at *
    refine pur_intro Tryz.func134 rfl Tryz.ntmps134 rfl (by first | rfl | assumption | exact bs_cl _) fun B => ?_
    repeat (first | refine zC ?_ | refine zA ?_ | refine k_geq rfl rfl rfl e1 ?_ | refine k_leq rfl rfl rfl e2 ?_ | refine zB ?_)
    (first | with_reducible refine q_endr ?_); refine rets1 Tryz.results134 (by exact zv) ?_
    rfl
  · rw [decide_eq_false (by omega)]
    have e1 : decide (n ≥ 0) = false := by simp; omega
    refine pur_intro Tryz.func134 rfl Tryz.ntmps134 rfl (by first | rfl | assumption | exact bs_cl _) fun B => ?_
    repeat (first | refine zC ?_ | refine zA ?_ | refine k_geq rfl rfl rfl e1 ?_ | refine zB ?_)
    (first | with_reducible refine q_endr ?_); refine rets1 Tryz.results134 (by exact zv) ?_
    rfl
theorem two_ok (n : Nat) (h : n ≤ 65535) : Pur Tryz.prog 137 [.int .i64 n] (.slice .frozen 2 (bs (toB 2 n))) := by
  have e1 : (n : Int).fdiv (2 ^ (min (8 : Int).toNat IntKind.i64.bits)) = ((n / 256 : Nat) : Int) := by
    show (n : Int).fdiv 256 = _
    rw [Int.fdiv_eq_ediv_of_nonneg _ (by decide)]; omega
  obtain ⟨a, ha⟩ : ∃ a, UInt8.ofNat (n / 256) = a := ⟨_, rfl⟩
  obtain ⟨b, hb⟩ : ∃ a, UInt8.ofNat (n % 256) = a := ⟨_, rfl⟩
  have e2 : IntKind.u8.wrap ((n / 256 : Nat) : Int) = ((a.toNat : Nat) : Int) := by
    rw [← ha, UInt8.toNat_ofNat', IntKind.wrap_u8]; omega
  have e3 : IntKind.u8.wrap (n : Int) = ((b.toNat : Nat) : Int) := by
    rw [← hb, UInt8.toNat_ofNat', IntKind.wrap_u8]; omega
  have e4 : toB 2 n = [a, b] := by
    rw [← ha, ← hb]
    have h2 : UInt8.ofNat n = UInt8.ofNat (n % 256) := by
      apply UInt8.toNat_inj.1
      rw [UInt8.toNat_ofNat', UInt8.toNat_ofNat']; omega
    simp [toB]; exact h2
  rw [e4]
  refine pur_intro Tryz.func137 rfl Tryz.ntmps137 rfl (by first | rfl | assumption | exact bs_cl _) fun B => ?_
  repeat (first | refine zC ?_ | refine zA ?_ | (refine k_shr rfl rfl rfl ?_ e1 ?_; (decide)) | refine k_conv rfl rfl e2 ?_ | refine k_conv rfl rfl e3 ?_ | refine zB ?_)
  (first | with_reducible refine q_endr ?_); refine rets1 Tryz.results137 (by exact zv) ?_
  rfl
def pad (l : List UInt8) : List UInt8 := l ++ List.replicate (32 - l.length) 0
theorem pad_len (l : List UInt8) (h : l.length ≤ 32) : (pad l).length = 32 := by unfold pad; simp; omega
theorem pad_32 (l : List UInt8) (h : l.length = 32) : pad l = l := by unfold pad; rw [h]; simp
theorem lword_ok (l : List UInt8) (h : l.length ≤ 32) (n : Nat) (hn : l.length = n) : Pur Tryz.prog 135 [.slice .frozen n (bs l)] (.agg (bs (pad l))) := by
  have tl := pad_len l h
  have hsp := b_put tl
  have hwz := b_cut tl
  have ht : (bs l).take n = bs l := List.take_of_length_le (by rw [bs_len, hn]; exact Nat.le_refl _)
  have hmin : Nat.min n 32 = n := Nat.min_eq_left (by omega)
  have hlay : splice 0 (bs l) (bs (List.replicate 32 0)) = some (bs (pad l)) := by
    unfold splice
    rw [Nat.ble_eq_true_of_le (by rw [bs_len, bs_len, List.length_replicate]; omega), cond_true]
    congr 1
    have e : (bs (List.replicate 32 0)).drop (0 + (bs l).length) = bs (List.replicate (32 - l.length) 0) := by
      rw [Nat.zero_add, bs_len]; unfold bs; rw [← List.map_drop, List.drop_replicate]
    rw [e, List.take_zero, List.nil_append]
    unfold pad; simp [bs]
  refine pur_intro Tryz.func135 rfl Tryz.ntmps135 rfl (by first | rfl | assumption | exact bs_cl _) fun B => ?_
  repeat (first | refine zC ?_ | refine k_load rfl rfl rfl (hwz _) ?_ | refine k_store rfl rfl rfl rfl (b_len tl) (b_fits _) (by exact hsp _ rfl) ?_ | refine zA ?_ | refine k_copyd rfl rfl rfl rfl rfl hmin ht hn (by exact hlay) ?_ | refine zB ?_)
  (first | with_reducible refine q_endr ?_); refine rets1 Tryz.results135 (RetV.cell _ _ _ _ _ _ _ _ inferInstance rfl rfl (by exact hwz _)) ?_
  exact b_fz _
def slsC (ls : List (List UInt8)) : List D := ls.map fun l => .slice .frozen l.length (bs l)
theorem slsC_at (ls : List (List UInt8)) (j : Nat) (l : List UInt8) (h : ls[j]? = some l) (ze : List D) : cut ⟨false, 1, ze⟩ 0 ((slsC ls).drop ((j : Int).toNat * 1)) = some (.slice .frozen l.length (bs l)) := by
  unfold cut slsC
  simp only [cond_false, Int.toNat_natCast, Nat.mul_one, List.getElem?_drop, Nat.add_zero]
  rw [List.getElem?_map, h]; rfl
theorem flat_snoc (ls : List (List UInt8)) (j : Nat) (l : List UInt8) (h : ls[j]? = some l) : (ls.take (j + 1)).flatten = (ls.take j).flatten ++ l := by
  rw [List.take_add_one, h]; simp
theorem flat_le (ls : List (List UInt8)) (j : Nat) : (ls.take j).flatten.length ≤ ls.flatten.length := by
  conv => rhs; rw [← List.take_append_drop j ls]
  rw [List.flatten_append, List.length_append]; omega
set_option maxHeartbeats 4000000 in
theorem join_ok (ls : List (List UInt8)) (n : Nat) (hn : ls.length = n) (hn9 : n ≤ 100) (hs : ls.flatten.length ≤ 1000000) (no : Nat) (hno : ls.flatten.length = no) : Pur Tryz.prog 136 [.slice .frozen n (slsC ls)] (.slice .frozen no (bs ls.flatten)) := by
  have hat := slsC_at ls
  have hzl : n * 1 = (slsC ls).length := by unfold slsC; rw [List.length_map, hn]; omega
  have hle := flat_le ls
  have hsn := flat_snoc ls
  have htk : ls.take n = ls := List.take_of_length_le (by omega)
  generalize slsC ls = zs at *
  refine pur_intro Tryz.func136 rfl Tryz.ntmps136 rfl (by first | rfl | assumption | exact bs_cl _) fun B => ?_
  refine zR ?_
  refine W_of_weak (weak_tok 5 1) ?_
  refine W_loopW (fun n' ρ m nx => ∃ (j k : Nat) (z : List D), j ≤ n ∧ k = (ls.take j).flatten.length ∧ z = bs (ls.take j).flatten ∧ n' = n - j ∧ ρ = [(8, .int .i64 (j : Int)), (7, .int .i64 (n : Int)), (6, .slice .frozen n zs), (3, .slice (.own 0) k z)] ∧ m = [(0, some (.tok 5 1))] ∧ nx = 1)
    ⟨_, _, _, _, (by exact zF (fun l => l)), 0, 0, [], Nat.zero_le _, rfl, rfl, rfl, rfl, rfl, rfl⟩ ?_
  rintro n' ρ m nx ⟨j, k, z, hj, hk, hz, rfl, rfl, rfl, rfl⟩
  by_cases hlt : j < n
  · obtain ⟨l, hl⟩ : ∃ l, ls[j]? = some l := ⟨_, List.getElem?_eq_getElem (by omega)⟩
    have h1 := hat j l hl
    have h2 := hsn j l hl
    have h3 := hle (j + 1)
    have hz2 : z ++ bs l = bs (ls.take (j + 1)).flatten := by rw [hz, h2]; simp [bs]
    have hk2 : k + l.length = (ls.take (j + 1)).flatten.length := by rw [hk, h2, List.length_append]
    have hkz : k * 1 = z.length := by rw [hz, hk, bs_len]; omega
    have hlb : l.length * 1 = (bs l).length := by rw [bs_len]; omega
    have hsm : k + l.length ≤ 16777216 := by omega
    generalize hq : (ls.take (j + 1)).flatten = fl at *
    generalize bs l = zl at *
    generalize l.length = L at *
    repeat (first | refine zC ?_ | (refine k_indexAddrs rfl rfl rfl ⟨?_, ?_⟩ hzl ?_; (omega); (omega)) | refine k_loade rfl rfl (h1 _) ?_ | (refine k_append rfl rfl rfl ?_ hkz hlb rfl hsm rfl hk2 hz2 ?_; (rfl)) | refine zAB ?_)
    subst hq
    exact ⟨n - (j + 1), _, _, _, (by exact zF (fun l => if l = 0 then 1 else l)), by omega, j + 1, _, _, by omega, rfl, rfl, rfl, rfl, rfl, rfl⟩
  · have ej : j = n := by omega
    subst ej
    rw [htk] at hk hz
    rw [hno] at hk
    subst hk hz
    refine zR ?_
    (first | with_reducible refine q_endr ?_); refine rets1 Tryz.results136 (by exact zv) ?_
    rfl
end Go.Proofs.YtcfefmbbbfdppaaGreatDoor
namespace Go.Proofs.YtcfefmbbbfdppaaGreatDoor
open Go.RowKit Go.Lib Go.IntWalk
set_option linter.unusedVariables false
set_option maxRecDepth 100000
structure LoadT where
  k : Int
  am : Nat
  fe : Nat
  tk : List UInt8
  ho : Int
  tp : List UInt8
  tc : Int
  de : Int
  sy : ByteArray
  da : List UInt8
  ix : Int
  kn : Nat
  kz : List D
def ldC (k : Int) (am fe : Nat) (tk : List UInt8) (ho : Int) (tp : List UInt8) (tl : List D) : List D := .int .i64 k :: (ud am ++ (ud fe ++ (bs tk ++ (.int .i64 ho :: (bs tp ++ tl)))))
def LoadT.tl (l : LoadT) : List D := [.int .i64 l.tc, .int .i64 l.de, .str l.sy, .slice .frozen l.da.length (bs l.da), .int .i64 l.ix, .slice .frozen l.kn l.kz]
def LoadT.cells (l : LoadT) : List D := ldC l.k l.am l.fe l.tk l.ho l.tp l.tl
theorem cut_one (A C : List D) (d : D) (off : Nat) (h : off = A.length) (ze : List D) : cut ⟨false, 1, ze⟩ off (A ++ d :: C) = some d := by
  subst h
  unfold cut
  simp only [cond_false]
  rw [List.getElem?_append_right (Nat.le_refl _), Nat.sub_self]; rfl
theorem cut_mid (A B C : List D) (off size : Nat) (h : off = A.length) (hs : size = B.length) (ze : List D) : cut ⟨true, size, ze⟩ off (A ++ (B ++ C)) = some (.agg B) := by
  subst h; subst hs
  unfold cut
  simp only [cond_true]
  rw [Nat.ble_eq_true_of_le (by simp), cond_true, List.drop_left, List.take_left]
section
variable {k : Int} {am fe : Nat} {tk : List UInt8} {ho : Int} {tp : List UInt8} (h1 : tk.length = 32) (h2 : tp.length = 32)
include h1 h2
theorem ldC_len (tl : List D) (ht : tl.length = 6) : (ldC k am fe tk ho tp tl).length = 80 := by
  unfold ldC ud
  simp only [List.length_cons, List.length_append, bs_len, h1, h2, ht, List.length_nil]
theorem ldC_all (tl : List D) (ht : tl.length = 6) (ze : List D) : cut ⟨true, 80, ze⟩ 0 (ldC k am fe tk ho tp tl) = some (.agg (ldC k am fe tk ho tp tl)) := by
  have := cut_mid [] (ldC k am fe tk ho tp tl) [] 0 80 rfl (ldC_len h1 h2 tl ht).symm ze
  rw [List.append_nil] at this; exact this
theorem ldC_lay (tl : List D) (ht : tl.length = 6) (cs : List D) (hc : cs.length = 80) : splice 0 (ldC k am fe tk ho tp tl) cs = some (ldC k am fe tk ho tp tl) := by
  have hl := ldC_len (k := k) (am := am) (fe := fe) (ho := ho) h1 h2 tl ht
  unfold splice
  rw [Nat.ble_eq_true_of_le (by rw [hl, hc]; exact Nat.le_refl _), cond_true, Nat.zero_add, List.drop_of_length_le (by rw [hl, hc]; exact Nat.le_refl _)]
  simp
omit h2 in
theorem ldC_tk (tl : List D) (ze : List D) : cut ⟨true, 32, ze⟩ 9 (ldC k am fe tk ho tp tl) = some (.agg (bs tk)) :=
  cut_mid (.int .i64 k :: (ud am ++ ud fe)) (bs tk) _ 9 32 rfl (by rw [bs_len, h1]) ze
omit h2 in
theorem ldC_ho (tl : List D) (ze : List D) : cut ⟨false, 1, ze⟩ 41 (ldC k am fe tk ho tp tl) = some (.int .i64 ho) := by
  have := cut_one (.int .i64 k :: (ud am ++ (ud fe ++ bs tk))) (bs tp ++ tl) (.int .i64 ho) 41 (by simp [ud, bs_len, h1]) ze
  simpa [ldC, List.append_assoc] using this
theorem ldC_tp (tl : List D) (ze : List D) : cut ⟨true, 32, ze⟩ 42 (ldC k am fe tk ho tp tl) = some (.agg (bs tp)) := by
  have := cut_mid (.int .i64 k :: (ud am ++ (ud fe ++ (bs tk ++ [.int .i64 ho])))) (bs tp) tl 42 32 (by simp [ud, bs_len, h1]) (by rw [bs_len, h2]) ze
  simpa [ldC, List.append_assoc] using this
theorem ldC_tl (i : Nat) (d : D) (tl : List D) (hd : tl[i]? = some d) (off : Nat) (ho' : off = 74 + i) (ze : List D) : cut ⟨false, 1, ze⟩ off (ldC k am fe tk ho tp tl) = some d := by
  subst ho'
  unfold cut
  simp only [cond_false]
  have e : ldC k am fe tk ho tp tl = (.int .i64 k :: (ud am ++ (ud fe ++ (bs tk ++ (.int .i64 ho :: bs tp))))) ++ tl := by simp [ldC, List.append_assoc]
  rw [e, List.getElem?_append_right (by simp [ud, bs_len, h1, h2])]
  have hl : (D.int .i64 k :: (ud am ++ (ud fe ++ (bs tk ++ (.int .i64 ho :: bs tp))))).length = 74 := by simp [ud, bs_len, h1, h2]
  rw [hl, Nat.add_sub_cancel_left]; exact hd
end
theorem ldC_k (k : Int) (am fe : Nat) (tk : List UInt8) (ho : Int) (tp : List UInt8) (tl ze : List D) : cut ⟨false, 1, ze⟩ 0 (ldC k am fe tk ho tp tl) = some (.int .i64 k) := rfl
theorem ldC_am (k : Int) (am fe : Nat) (tk : List UInt8) (ho : Int) (tp : List UInt8) (tl ze : List D) : cut ⟨true, 4, ze⟩ 1 (ldC k am fe tk ho tp tl) = some (U am) :=
  cut_mid [.int .i64 k] (ud am) _ 1 4 rfl rfl ze
theorem ldC_fe (k : Int) (am fe : Nat) (tk : List UInt8) (ho : Int) (tp : List UInt8) (tl ze : List D) : cut ⟨true, 4, ze⟩ 5 (ldC k am fe tk ho tp tl) = some (U fe) :=
  cut_mid (.int .i64 k :: ud am) (ud fe) _ 5 4 rfl rfl ze
set_option maxHeartbeats 16000000 in
theorem same_self (l : LoadT) (h1 : l.tk.length = 32) (h2 : l.tp.length = 32) (ha : l.am < M256) (hf : l.fe < M256) : Pur Tryz.prog 104 [.agg l.cells, .agg l.cells] (.bool true) := by
  unfold LoadT.cells
  have fa := ldC_all (k := l.k) (am := l.am) (fe := l.fe) (ho := l.ho) h1 h2 l.tl rfl
  have f0 := ldC_k l.k l.am l.fe l.tk l.ho l.tp l.tl
  have f1 := ldC_am l.k l.am l.fe l.tk l.ho l.tp l.tl
  have f2 := ldC_fe l.k l.am l.fe l.tk l.ho l.tp l.tl
  have f3 := ldC_tk (k := l.k) (am := l.am) (fe := l.fe) (ho := l.ho) (tp := l.tp) h1 l.tl
  have f4 := ldC_ho (k := l.k) (am := l.am) (fe := l.fe) (ho := l.ho) (tp := l.tp) h1 l.tl
  have f5 := ldC_tp (k := l.k) (am := l.am) (fe := l.fe) (ho := l.ho) h1 h2 l.tl
  have f6 := ldC_tl (k := l.k) (am := l.am) (fe := l.fe) (ho := l.ho) h1 h2 0 _ l.tl rfl 74 rfl
  have f7 := ldC_tl (k := l.k) (am := l.am) (fe := l.fe) (ho := l.ho) h1 h2 1 _ l.tl rfl 75 rfl
  have f8 := ldC_tl (k := l.k) (am := l.am) (fe := l.fe) (ho := l.ho) h1 h2 2 _ l.tl rfl 76 rfl
  have f9 := ldC_tl (k := l.k) (am := l.am) (fe := l.fe) (ho := l.ho) h1 h2 3 _ l.tl rfl 77 rfl
  have f10 := ldC_tl (k := l.k) (am := l.am) (fe := l.fe) (ho := l.ho) h1 h2 4 _ l.tl rfl 78 rfl
  have f11 := ldC_tl (k := l.k) (am := l.am) (fe := l.fe) (ho := l.ho) h1 h2 5 _ l.tl rfl 79 rfl
  have hl := ldC_len (k := l.k) (am := l.am) (fe := l.fe) (ho := l.ho) h1 h2 l.tl rfl
  have d1 := deqs_ud l.am l.am ha ha
  have d2 := deqs_ud l.fe l.fe hf hf
  simp only [decide_true] at d1 d2
  have e1 : ∀ z : List UInt8, deqs (bs z) (bs z) = true := fun z => by
    induction z with
    | nil => rfl
    | cons c z ih =>
      show (deq1 (.int .u8 (c.toNat : Int)) (.int .u8 (c.toNat : Int)) && deqs (bs z) (bs z)) = true
      rw [ih]; simp [deq1]
  have d3 := e1 l.tk
  have d4 := e1 l.tp
  have lk : ∀ (n : Nat) (z : List UInt8), z.length = n → lks (bs z) = lks (bs (List.replicate n 0)) := by
    intro n
    induction n with
    | zero => intro z h; rw [List.eq_nil_of_length_eq_zero h]; rfl
    | succ n ih =>
      intro z h
      cases z with
      | nil => cases h
      | cons c z =>
        have := ih z (by simpa using h)
        show lks (D.int .u8 (c.toNat : Int) :: bs z) = lks (D.int .u8 _ :: bs (List.replicate n 0))
        unfold lks
        rw [this]; rfl
  have l1 := lk 32 l.tk h1
  have l2 := lk 32 l.tp h2
  have q1 : (l.sy.toList == l.sy.toList) = true := by simp
  have q2 : ((ByteArray.mk l.da.toArray).toList == (ByteArray.mk l.da.toArray).toList) = true := by simp
  generalize ldC l.k l.am l.fe l.tk l.ho l.tp l.tl = X at *
  obtain ⟨k, am, fe, tk, ho, tp, tc, de, sy, da, ix, kn, kz⟩ := l
  dsimp only at *
  refine pur_intro Tryz.func104 rfl Tryz.ntmps104 rfl (by first | rfl | assumption | exact bs_cl _) fun B => ?_
  repeat (first | refine zC ?_ | refine k_load rfl rfl rfl (f0 _) ?_ | refine k_load rfl rfl rfl (f1 _) ?_ | refine k_load rfl rfl rfl (f2 _) ?_ | refine k_load rfl rfl rfl (f3 _) ?_ | refine k_load rfl rfl rfl (f4 _) ?_ | refine k_load rfl rfl rfl (f5 _) ?_ | refine k_load rfl rfl rfl (f6 _) ?_ | refine k_load rfl rfl rfl (f7 _) ?_ | refine k_load rfl rfl rfl (f8 _) ?_ | refine k_load rfl rfl rfl (f9 _) ?_ | refine k_load rfl rfl rfl (f10 _) ?_ | refine k_load rfl rfl rfl (f11 _) ?_ | refine zA ?_ | refine k_eqa rfl rfl rfl rfl rfl d1 ?_ | refine k_eqa rfl rfl rfl rfl rfl d2 ?_ | refine k_eqa rfl rfl rfl l1 l1 d3 ?_ | refine k_eqa rfl rfl rfl l2 l2 d4 ?_ | refine k_eqs rfl rfl rfl q1 ?_ | refine k_eqs rfl rfl rfl q2 ?_ | refine k_b2s rfl Tryz.underlying9 Tryz.underlying5 rfl rfl ?_ | refine zB ?_)
  (first | with_reducible refine q_endr ?_); refine rets1 Tryz.results104 (by exact zv) ?_
  rfl
end Go.Proofs.YtcfefmbbbfdppaaGreatDoor
namespace Go.Proofs.YtcfefmbbbfdppaaGreatDoor
open Go.RowKit Go.Lib Go.IntWalk
set_option linter.unusedVariables false
set_option maxRecDepth 100000
theorem list32x (l : List UInt8) (h : l.length = 32) : ∃ f : Nat → UInt8, l = (List.range 32).map f := by
  refine ⟨fun i => l.getD i 0, ?_⟩
  apply List.ext_getElem?
  intro i
  rcases Nat.lt_or_ge i 32 with hi | hi
  · rw [List.getElem?_map, List.getElem?_range hi]
    rw [List.getElem?_eq_getElem (by omega)]
    simp [List.getElem?_eq_getElem (show i < l.length by omega)]
  · rw [List.getElem?_eq_none (by omega), List.getElem?_eq_none (by simp; omega)]
abbrev ldPl : List (Nat × Nat) := [(0, 1), (1, 4), (5, 4), (9, 32), (41, 1), (42, 32), (74, 1), (75, 1), (76, 1), (77, 1), (78, 1), (79, 1)]
def z32' : List UInt8 := List.replicate 32 0
abbrev ld0 : List D := ldC 0 0 0 z32' 0 z32' [.int .i64 0, .int .i64 0, .str ⟨#[]⟩, .slice .nil 0 [], .int .i64 0, .slice .nil 0 []]
theorem fill_tr (k : Int) (am fe : Nat) (tk : List UInt8) (ho : Int) (tp : List UInt8) (tc : Int) (n : Nat) (z : List D) (h1 : tk.length = 32) (h2 : tp.length = 32) :
    dfill ldPl ld0 [(0, .int .i64 k), (1, U am), (2, U fe), (3, .agg (bs tk)), (4, .int .i64 ho), (5, .agg (bs tp)), (6, .int .i64 tc), (9, .slice .frozen n z)] = some (ldC k am fe tk ho tp [.int .i64 tc, .int .i64 0, .str ⟨#[]⟩, .slice .frozen n z, .int .i64 0, .slice .nil 0 []]) := by
  obtain ⟨f, rfl⟩ := list32x tk h1
  obtain ⟨g, rfl⟩ := list32x tp h2
  kernel_rfl
theorem ldC_fzs (k : Int) (am fe : Nat) (tk : List UInt8) (ho : Int) (tp : List UInt8) (tl : List D) : D.fzs (ldC k am fe tk ho tp tl) = ldC k am fe tk ho tp (D.fzs tl) := by
  have hb : ∀ (l : List UInt8) (r : List D), D.fzs (bs l ++ r) = bs l ++ D.fzs r := fun l r => by
    induction l with
    | nil => rfl
    | cons a l ih => show D.int .u8 _ :: D.fzs (bs l ++ r) = _; rw [ih]; rfl
  have h1 : D.fzs (ldC k am fe tk ho tp tl) = .int .i64 k :: (ud am ++ (ud fe ++ D.fzs (bs tk ++ (.int .i64 ho :: (bs tp ++ tl))))) := rfl
  rw [h1, hb]
  show _ :: (ud am ++ (ud fe ++ (bs tk ++ (.int .i64 ho :: D.fzs (bs tp ++ tl))))) = _
  rw [hb]; rfl
theorem ldC_cl (k : Int) (am fe : Nat) (tk : List UInt8) (ho : Int) (tp : List UInt8) (tl : List D) (h : D.cls tl = true) : D.cls (ldC k am fe tk ho tp tl) = true := by
  have hb : ∀ (l : List UInt8) (r : List D), D.cls (bs l ++ r) = D.cls r := fun l r => by
    induction l with
    | nil => rfl
    | cons a l ih => show (true && D.cls (bs l ++ r)) = _; rw [ih]; rfl
  have h1 : D.cls (ldC k am fe tk ho tp tl) = D.cls (bs tk ++ (.int .i64 ho :: (bs tp ++ tl))) := rfl
  rw [h1, hb]
  show D.cls (bs tp ++ tl) = true
  rw [hb, h]
set_option maxHeartbeats 8000000 in
theorem tr_bare (p : Bool) (l : LoadT) (h1 : l.tk.length = 32) (h2 : l.tp.length = 32) (Y : List D) (hY : ldC l.k l.am l.fe l.tk l.ho l.tp [.int .i64 l.tc, .int .i64 0, .str ⟨#[]⟩, .slice .frozen l.da.length (bs l.da), .int .i64 0, .slice .nil 0 []] = Y) : Pur Tryz.prog 130 [.agg [.bool p], .agg l.cells] (.agg Y) := by
  unfold LoadT.cells
  have fa := ldC_all (k := l.k) (am := l.am) (fe := l.fe) (ho := l.ho) h1 h2 l.tl rfl
  have f0 := ldC_k l.k l.am l.fe l.tk l.ho l.tp l.tl
  have f1 := ldC_am l.k l.am l.fe l.tk l.ho l.tp l.tl
  have f2 := ldC_fe l.k l.am l.fe l.tk l.ho l.tp l.tl
  have f3 := ldC_tk (k := l.k) (am := l.am) (fe := l.fe) (ho := l.ho) (tp := l.tp) h1 l.tl
  have f4 := ldC_ho (k := l.k) (am := l.am) (fe := l.fe) (ho := l.ho) (tp := l.tp) h1 l.tl
  have f5 := ldC_tp (k := l.k) (am := l.am) (fe := l.fe) (ho := l.ho) h1 h2 l.tl
  have f6 := ldC_tl (k := l.k) (am := l.am) (fe := l.fe) (ho := l.ho) h1 h2 0 _ l.tl rfl 74 rfl
  have f7 := ldC_tl (k := l.k) (am := l.am) (fe := l.fe) (ho := l.ho) h1 h2 1 _ l.tl rfl 75 rfl
  have f8 := ldC_tl (k := l.k) (am := l.am) (fe := l.fe) (ho := l.ho) h1 h2 2 _ l.tl rfl 76 rfl
  have f9 := ldC_tl (k := l.k) (am := l.am) (fe := l.fe) (ho := l.ho) h1 h2 3 _ l.tl rfl 77 rfl
  have f10 := ldC_tl (k := l.k) (am := l.am) (fe := l.fe) (ho := l.ho) h1 h2 4 _ l.tl rfl 78 rfl
  have f11 := ldC_tl (k := l.k) (am := l.am) (fe := l.fe) (ho := l.ho) h1 h2 5 _ l.tl rfl 79 rfl
  have hl := ldC_len (k := l.k) (am := l.am) (fe := l.fe) (ho := l.ho) h1 h2 l.tl rfl
  have hb := fill_tr l.k l.am l.fe l.tk l.ho l.tp l.tc l.da.length (bs l.da) h1 h2
  have hbl := ldC_len (k := l.k) (am := l.am) (fe := l.fe) (ho := l.ho) h1 h2 [.int .i64 l.tc, .int .i64 0, .str ⟨#[]⟩, .slice .frozen l.da.length (bs l.da), .int .i64 0, .slice .nil 0 []] rfl
  have hba := ldC_all (k := l.k) (am := l.am) (fe := l.fe) (ho := l.ho) h1 h2 [.int .i64 l.tc, .int .i64 0, .str ⟨#[]⟩, .slice .frozen l.da.length (bs l.da), .int .i64 0, .slice .nil 0 []] rfl
  have hbs := ldC_lay (k := l.k) (am := l.am) (fe := l.fe) (ho := l.ho) h1 h2 [.int .i64 l.tc, .int .i64 0, .str ⟨#[]⟩, .slice .frozen l.da.length (bs l.da), .int .i64 0, .slice .nil 0 []] rfl
  have hfz := ldC_fzs l.k l.am l.fe l.tk l.ho l.tp [.int .i64 l.tc, .int .i64 0, .str ⟨#[]⟩, .slice .frozen l.da.length (bs l.da), .int .i64 0, .slice .nil 0 []]
  have hcl := ldC_cl l.k l.am l.fe l.tk l.ho l.tp [.int .i64 l.tc, .int .i64 0, .str ⟨#[]⟩, .slice .frozen l.da.length (bs l.da), .int .i64 0, .slice .nil 0 []] rfl
  rw [hY] at hb hbl hba hbs hfz hcl
  have heq : D.fzs Y = Y := by rw [hfz, ← hY]; rfl
  generalize ldC l.k l.am l.fe l.tk l.ho l.tp l.tl = X at *
  obtain ⟨k, am, fe, tk, ho, tp, tc, de, sy, da, ix, kn, kz⟩ := l
  dsimp only at *
  refine pur_intro Tryz.func130 rfl Tryz.ntmps130 rfl hcl fun B => ?_
  repeat (first | refine zC ?_ | refine k_load rfl rfl rfl (f0 _) ?_ | refine k_load rfl rfl rfl (f1 _) ?_ | refine k_load rfl rfl rfl (f2 _) ?_ | refine k_load rfl rfl rfl (f3 _) ?_ | refine k_load rfl rfl rfl (f4 _) ?_ | refine k_load rfl rfl rfl (f5 _) ?_ | refine k_load rfl rfl rfl (f6 _) ?_ | refine k_load rfl rfl rfl (f7 _) ?_ | refine k_load rfl rfl rfl (f8 _) ?_ | refine k_load rfl rfl rfl (f9 _) ?_ | refine k_load rfl rfl rfl (f10 _) ?_ | refine k_load rfl rfl rfl (f11 _) ?_ | refine k_build rfl rfl hb ?_ | refine k_store rfl rfl rfl rfl (by exact hbl) rfl (by exact hbs _ rfl) ?_ | refine zAB ?_)
  (first | with_reducible refine q_endr ?_); refine rets1 Tryz.results130 (RetV.cell _ _ _ _ _ _ _ _ inferInstance rfl rfl (by exact hba _)) ?_
  show D.agg (D.fzs Y) = _
  rw [heq]
end Go.Proofs.YtcfefmbbbfdppaaGreatDoor
