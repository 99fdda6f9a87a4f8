/- load: get of turn. Conditions: as said. -/
import Derived.Test.YtcfefmbbbfdppaaSGh
namespace Go.Proofs.Ytcfefmbbbfdppaa
open Go.RowKit Go.Lib Go.IntWalk
set_option linter.unusedVariables false
set_option maxRecDepth 100000
theorem bs_mid (b pre mid post : List UInt8) (h : b = pre ++ (mid ++ post)) (i n : Nat) (hi : pre.length = i) (hn : mid.length = n) : ((bs b).drop i).take n = bs mid := by
  subst h hi hn
  unfold bs
  rw [← List.map_drop, ← List.map_take, List.drop_left, List.take_left]
theorem bs_nth (b pre post : List UInt8) (c : UInt8) (h : b = pre ++ (c :: post)) (i : Nat) (hi : pre.length = i) (ze : List D) : cut ⟨false, 1, ze⟩ 0 ((bs b).drop i) = some (.int .u8 (c.toNat : Int)) := by
  subst h hi
  unfold cut
  simp only [cond_false, List.getElem?_drop, Nat.add_zero]
  refine bs_get _ _ _ ?_
  rw [List.getElem?_append_right (Nat.le_refl _), Nat.sub_self]; rfl
theorem or_i64 (X y i p : Nat) (hp : 2 ^ i = p) (hy : y < p) (hX : X * p + y < 9223372036854775808) : bitw .or .i64 ((X * p : Nat) : Int) (y : Int) = ((X * p + y : Nat) : Int) := by
  subst hp
  have hor : X * 2 ^ i ||| y = X * 2 ^ i + y := by
    have := Nat.shiftLeft_add_eq_or_of_lt (i := i) (b := y) hy X
    rw [Nat.shiftLeft_eq] at this
    exact this.symm
  generalize X * 2 ^ i = x at *
  have f1 : (BitVec.ofInt 64 (x : Int)).toNat = x := by rw [BitVec.toNat_ofInt]; omega
  have f2 : (BitVec.ofInt 64 (y : Int)).toNat = y := by rw [BitVec.toNat_ofInt]; omega
  show IntKind.i64.wrap (((BitVec.ofInt 64 (x : Int) ||| BitVec.ofInt 64 (y : Int)).toNat : Nat) : Int) = _
  rw [BitVec.toNat_or, f1, f2, hor, i64_in _ (by omega)]
theorem shl_i64 (x k p : Nat) (hk : k ≤ 64) (hp : 2 ^ k = p) (h : x * p < 9223372036854775808) : IntKind.i64.wrap ((x : Int) * 2 ^ (min (k : Int).toNat IntKind.i64.bits)) = ((x * p : Nat) : Int) := by
  have : min ((k : Int)).toNat IntKind.i64.bits = k := by rw [Int.toNat_natCast]; exact Nat.min_eq_left hk
  subst hp
  have e : (x : Int) * 2 ^ k = ((x * 2 ^ k : Nat) : Int) := by norm_cast
  rw [this, e]
  generalize x * 2 ^ k = n at *
  exact i64_in _ (by omega)
theorem nm_2 (x y : UInt8) : nm [x, y] = x.toNat * 256 + y.toNat := by simp [nm]
theorem ld0_fz : D.fzs ld0 = ld0 := by rw [ldC_fzs]; rfl
theorem fill_tg (am fe : Nat) (tk : List UInt8) (ho : Int) (tp : List UInt8) (tc : Int) (t : Tok) (n : Nat) (z : List D) (h1 : tk.length = 32) (h2 : tp.length = 32) :
    dfill ldPl ld0 [(1, U am), (3, .agg (bs tk)), (4, .int .i64 ho), (5, .agg (bs tp)), (6, .int .i64 tc), (2, U fe), (9, .slice t n z)] = some (ldC 0 am fe tk ho tp [.int .i64 tc, .int .i64 0, .str ⟨#[]⟩, .slice t n z, .int .i64 0, .slice .nil 0 []]) := by
  obtain ⟨f, rfl⟩ := list32x tk h1
  obtain ⟨g, rfl⟩ := list32x tp h2
  kernel_rfl
set_option maxHeartbeats 16000000 in
theorem tr_get (p : Bool) (A tk : List UInt8) (x1 x2 : UInt8) (tp : List UInt8) (y1 y2 : UInt8) (F da b : List UInt8) (hA : A.length = 32) (h1 : tk.length = 32) (h2 : tp.length = 32) (hF : F.length = 32) (hb : b = A ++ (tk ++ (x1 :: x2 :: (tp ++ (y1 :: y2 :: (F ++ da)))))) (L n : Nat) (hL : b.length = L) (hn : da.length = n) (hL9 : L ≤ 140737488355300)
    (am fe hh th : Nat) (ham : nm A = am) (hfe : nm F = fe) (hhh : nm [x1, x2] = hh) (hth : nm [y1, y2] = th) :
    Pur Try.prog 86 [.agg [.bool p], .slice .frozen L (bs b)] (.tup [.agg (ldC 0 am fe tk hh tp [.int .i64 th, .int .i64 0, .str ⟨#[]⟩, .slice .frozen n (bs da), .int .i64 0, .slice .nil 0 []]), .int .i64 0]) := by
  have hLn : L = 132 + n := by rw [← hL, hb]; simp [hA, h1, h2, hF, hn]; omega
  have hz : L * 1 = (bs b).length := by rw [bs_len, hL]; omega
  have a1 := x1.toNat_lt
  have a2 := x2.toNat_lt
  have a3 := y1.toNat_lt
  have a4 := y2.toNat_lt
  have p1 : ((bs b).drop ((0 : Int).toNat * 1)).take (32 * 1) = bs A := bs_mid b [] A _ (by rw [hb]; rfl) _ _ rfl hA
  have p2 : ((bs b).drop ((32 : Int).toNat * 1)).take (32 * 1) = bs tk := bs_mid b A tk _ hb _ _ hA h1
  have p3 : ((bs b).drop ((66 : Int).toNat * 1)).take (32 * 1) = bs tp := bs_mid b (A ++ (tk ++ [x1, x2])) tp (y1 :: y2 :: (F ++ da)) (by rw [hb]; simp) _ _ (by simp [hA, h1]) h2
  have p4 : ((bs b).drop ((100 : Int).toNat * 1)).take (32 * 1) = bs F := bs_mid b (A ++ (tk ++ (x1 :: x2 :: (tp ++ [y1, y2])))) F da (by rw [hb]; simp) _ _ (by simp [hA, h1, h2]) hF
  have p5 : ((bs b).drop ((132 : Int).toNat * 1)).take (n * 1) = bs da := bs_mid b (A ++ (tk ++ (x1 :: x2 :: (tp ++ (y1 :: y2 :: F))))) da [] (by rw [hb]; simp) _ _ (by simp [hA, h1, h2, hF]) (by rw [hn]; omega)
  have i1 : ∀ ze, cut ⟨false, 1, ze⟩ 0 ((bs b).drop ((64 : Int).toNat * 1)) = some (.int .u8 (x1.toNat : Int)) := bs_nth b (A ++ tk) (x2 :: (tp ++ (y1 :: y2 :: (F ++ da)))) x1 (by rw [hb, List.append_assoc]) _ (by simp [hA, h1])
  have i2 : ∀ ze, cut ⟨false, 1, ze⟩ 0 ((bs b).drop ((65 : Int).toNat * 1)) = some (.int .u8 (x2.toNat : Int)) := bs_nth b (A ++ (tk ++ [x1])) (tp ++ (y1 :: y2 :: (F ++ da))) x2 (by rw [hb]; simp) _ (by simp [hA, h1])
  have i3 : ∀ ze, cut ⟨false, 1, ze⟩ 0 ((bs b).drop ((98 : Int).toNat * 1)) = some (.int .u8 (y1.toNat : Int)) := bs_nth b (A ++ (tk ++ (x1 :: x2 :: tp))) (y2 :: (F ++ da)) y1 (by rw [hb]; simp) _ (by simp [hA, h1, h2])
  have i4 : ∀ ze, cut ⟨false, 1, ze⟩ 0 ((bs b).drop ((99 : Int).toNat * 1)) = some (.int .u8 (y2.toNat : Int)) := bs_nth b (A ++ (tk ++ (x1 :: x2 :: (tp ++ [y1])))) (F ++ da) y2 (by rw [hb]; simp) _ (by simp [hA, h1, h2])
  rw [nm_2] at hhh hth
  have w1 := lword_ok A (by omega) 32 hA
  have w2 := lword_ok tk (by omega) 32 h1
  have w3 := lword_ok tp (by omega) 32 h2
  have w4 := lword_ok F (by omega) 32 hF
  rw [pad_32 _ hA] at w1
  rw [pad_32 _ h1] at w2
  rw [pad_32 _ h2] at w3
  rw [pad_32 _ hF] at w4
  have v1 := From_ok A hA
  have v4 := From_ok F hF
  rw [ham] at v1
  rw [hfe] at v4
  generalize x1.toNat = X1 at *
  generalize x2.toNat = X2 at *
  generalize y1.toNat = Y1 at *
  generalize y2.toNat = Y2 at *
  have c1 : IntKind.i64.wrap (X1 : Int) = (X1 : Int) := i64_in _ (by omega)
  have c2 : IntKind.i64.wrap (X2 : Int) = (X2 : Int) := i64_in _ (by omega)
  have c3 : IntKind.i64.wrap (Y1 : Int) = (Y1 : Int) := i64_in _ (by omega)
  have c4 : IntKind.i64.wrap (Y2 : Int) = (Y2 : Int) := i64_in _ (by omega)
  have s1 := shl_i64 X1 8 256 (by decide) (by decide) (by omega)
  have s2 := shl_i64 Y1 8 256 (by decide) (by decide) (by omega)
  have o1 := or_i64 X1 X2 8 256 (by decide) a2 (by omega)
  have o2 := or_i64 Y1 Y2 8 256 (by decide) a4 (by omega)
  rw [hhh] at o1
  rw [hth] at o2
  have hq : ((L : Int) - 132).toNat = n := by omega
  have hnz : n * 1 = (bs da).length := by rw [bs_len, hn]; omega
  have hlA := ldC_all (k := 0) (am := am) (fe := fe) (ho := hh) h1 h2
  have hf := fill_tg am fe tk hh tp th (.own 3) n (bs da) h1 h2
  have hlen := ldC_len (k := 0) (am := am) (fe := fe) (ho := hh) h1 h2
  have hlay := ldC_lay (k := 0) (am := am) (fe := fe) (ho := hh) h1 h2
  generalize bs b = Z at *
  have hsm : 0 + n ≤ 140737488355328 := by omega
  have hsm2 : (0 + n) * 1 ≤ 140737488355328 := by omega
  have hcl : (D.tup [.agg (ldC 0 am fe tk hh tp [.int .i64 th, .int .i64 0, .str ⟨#[]⟩, .slice .frozen n (bs da), .int .i64 0, .slice .nil 0 []]), .int .i64 0]).cl = true := by
    show (D.cls _ && true) = true
    rw [ld_cl _ _ _ _ _ _ _ _ _ _ _ _ rfl rfl]; rfl
  clear hhh hth ham hfe hb
  refine pur_intro Try.func86 rfl Try.ntmps86 rfl hcl fun B => ?_
  repeat (first | with_reducible (first | refine W_seq ?_ | refine q_then ?_ | refine W_ret ?_ | refine W_skip ?_) | (with_reducible refine R_nil ?_; try dsimp only [slots0, slots_ud, cells_U, agg_ud, drop0, dropS, takeS, take0, ud_nil, take_ud, take_ud0, drop_ud, drop_ud0, take_udk, D.cells, D.fz, D.fzs, List.take_succ_cons, List.take_zero, List.drop_succ_cons, List.drop_zero, List.cons_append, List.nil_append, List.append_eq, List.length_cons, List.length_nil, Nat.reduceAdd, Nat.reduceMul, Nat.reduceSub, Int.reduceAdd, Int.reduceSub, Int.reduceToNat, Int.reduceNeg, Int.reduceMul]) | refine W_plain rfl ?_ | refine W_drawn mixed rfl ?_ | refine and_chk (by kernel_rfl) ?_ | (refine k_slice (nn := 32) rfl rfl rfl rfl ⟨?_, ?_, ?_⟩ hz rfl p1 ?_; (omega); (omega); (omega)) | (refine k_slice (nn := 32) rfl rfl rfl rfl ⟨?_, ?_, ?_⟩ hz rfl p2 ?_; (omega); (omega); (omega)) | (refine k_slice (nn := 32) rfl rfl rfl rfl ⟨?_, ?_, ?_⟩ hz rfl p3 ?_; (omega); (omega); (omega)) | (refine k_slice (nn := 32) rfl rfl rfl rfl ⟨?_, ?_, ?_⟩ hz rfl p4 ?_; (omega); (omega); (omega)) | (refine k_slice (nn := n) rfl rfl rfl rfl ⟨?_, ?_, ?_⟩ hz hq p5 ?_; (omega); (omega); (omega)) | (refine k_indexAddrs rfl rfl rfl ⟨?_, ?_⟩ hz ?_; (omega); (omega)) | refine k_loade rfl rfl (i1 _) ?_ | refine k_loade rfl rfl (i2 _) ?_ | refine k_loade rfl rfl (i3 _) ?_ | refine k_loade rfl rfl (i4 _) ?_ | (refine k_appendB rfl rfl rfl ?_ rfl hnz rfl hsm hsm2 (Nat.zero_add _) rfl ?_; (rfl)) | refine k_build rfl rfl hf ?_ | refine k_store rfl rfl rfl rfl (by exact hlen _ rfl) rfl (by exact hlay _ rfl _ rfl) ?_ | refine k_move rfl rfl ?_ | refine k_assign rfl rfl ?_ | refine k_alloc rfl ?_ | refine k_box rfl rfl rfl ?_ | refine k_store rfl rfl rfl rfl rfl rfl rfl ?_ | refine k_build rfl rfl rfl ?_ | refine k_conv rfl rfl c1 ?_ | refine k_conv rfl rfl c2 ?_ | refine k_conv rfl rfl c3 ?_ | refine k_conv rfl rfl c4 ?_ | (refine k_shl rfl rfl rfl ?_ s1 ?_; (decide)) | (refine k_shl rfl rfl rfl ?_ s2 ?_; (decide)) | refine k_bits rfl rfl rfl rfl o1 ?_ | refine k_bits rfl rfl rfl rfl o2 ?_ | refine k_call rfl w1 rfl rfl rfl (bs_cl _) ?_ | refine k_call rfl w2 rfl rfl rfl (bs_cl _) ?_ | refine k_call rfl w3 rfl rfl rfl (bs_cl _) ?_ | refine k_call rfl w4 rfl rfl rfl (bs_cl _) ?_ | refine k_call rfl v1 rfl (b_fz1 _) (b_cl1 _) rfl ?_ | refine k_call rfl v4 rfl (b_fz1 _) (b_cl1 _) rfl ?_ | (refine k_append rfl rfl rfl ?_ ?_ ?_ rfl ?_ rfl rfl rfl ?_; (first | rfl | exact trivial | (show 0 < _; omega)); (first | rfl | (simp <;> omega)); (first | rfl | (simp <;> omega)); (omega)) | (refine k_slice rfl rfl rfl rfl ⟨?_, ?_, ?_⟩ rfl rfl rfl ?_; (omega); (omega); (omega)) | refine k_buildSlice (cs := []) rfl rfl rfl rfl rfl rfl rfl ?_ | refine k_buildSlice rfl rfl rfl rfl rfl rfl rfl ?_ | (refine k_indexAddrs rfl rfl rfl ⟨?_, ?_⟩ rfl ?_; (omega); (omega)) | refine k_loade rfl rfl rfl ?_ | refine k_len rfl rfl ?_ | (refine k_lssF rfl rfl rfl ?_ ?_; (omega)) | refine W_no rfl ?_)
  (first | with_reducible refine q_endr ?_); refine rets2 Try.results86 (RetV.cell _ _ _ _ _ _ _ _ inferInstance rfl rfl (by exact hlA _ rfl _)) (RetV.tmp _ _ rfl) ?_ rfl
  show D.agg (D.fzs (ldC _ _ _ _ _ _ _)) = _
  rw [ldC_fzs]; rfl
end Go.Proofs.Ytcfefmbbbfdppaa
namespace Go.Proofs.Ytcfefmbbbfdppaa
open Go.RowKit Go.Lib Go.IntWalk
set_option linter.unusedVariables false
set_option maxRecDepth 100000
end Go.Proofs.Ytcfefmbbbfdppaa
namespace Go.Proofs.Ytcfefmbbbfdppaa
open Go.RowKit Go.Lib Go.IntWalk
set_option linter.unusedVariables false
set_option maxRecDepth 100000
end Go.Proofs.Ytcfefmbbbfdppaa
