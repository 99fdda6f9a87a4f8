/- load: Check and Encode of each kind. Conditions: as said. -/
import Derived.Test.YtbpaimfnfigjpaaLoad9
namespace Go.Proofs.Ytbpaimfnfigjpaa
open Go.RowKit Go.Lib Go.IntWalk
set_option linter.unusedVariables false
set_option maxRecDepth 100000
def kN (p : Bool) : Int := if p then 3 else 1
def trL (p : Bool) (am fe : Nat) (tk : List UInt8) (hn : Nat) (tp : List UInt8) (tn : Nat) (da : List UInt8) : LoadT := ⟨kN p, am, fe, tk, hn, tp, tn, 0, ⟨#[]⟩, da, 0, 0, []⟩
def meL (tk : List UInt8) (hn dn : Nat) (sy : ByteArray) : LoadT := ⟨2, 0, 0, tk, hn, z32', 0, dn, sy, [], 0, 0, []⟩
def tuL (xn n : Nat) (ks : List (List UInt8)) : LoadT := ⟨4, 0, 0, z32', 0, z32', 0, 0, ⟨#[]⟩, [], xn, n, bs ks.flatten⟩
theorem kind_tr (p : Bool) : Pur Try.prog 33 [.int .i64 (kN p)] (.tup [.raw (kTr p), .bool true]) := by
  cases p
  · exact kindOf_1
  · exact kindOf_3
theorem one_rep (b : Bool) (G : Gh) (w : World) : Rep G w (.agg [.bool b]) (.agg #[.bool b]) := by
  refine .agg _ _ rfl (fun d hd => ?_) (fun i d v hd hv => ?_)
  · simp at hd; subst hd; rfl
  · cases i with
    | zero =>
      have e1 : d = .bool b := by simpa using hd.symm
      have e2 : v = .bool b := by simpa using hv.symm
      subst e1 e2; exact .bool _
    | succ i => simp at hd
theorem no_rep (G : Gh) (w : World) : Rep G w (.agg []) (.agg #[]) := by
  refine .agg _ _ rfl (fun d hd => ?_) (fun i d v hd hv => ?_)
  · simp at hd
  · simp at hd
theorem m_tr_check (b : Bool) (w : World) : (Go.method (Try.prog.types.size + Made.depth) 94 (.agg #[.bool b]) "bascule/load.check").run Try.prog w = .ok (55, (.agg #[.bool b])) w := by kernel_rfl
theorem m_me_check (w : World) : (Go.method (Try.prog.types.size + Made.depth) 96 (.agg #[]) "bascule/load.check").run Try.prog w = .ok (63, (.agg #[])) w := by kernel_rfl
theorem m_tu_check (w : World) : (Go.method (Try.prog.types.size + Made.depth) 97 (.agg #[]) "bascule/load.check").run Try.prog w = .ok (67, (.agg #[])) w := by kernel_rfl
theorem m_tr_bare (b : Bool) (w : World) : (Go.method (Try.prog.types.size + Made.depth) 94 (.agg #[.bool b]) "bascule/load.bare").run Try.prog w = .ok (54, (.agg #[.bool b])) w := by kernel_rfl
theorem m_me_bare (w : World) : (Go.method (Try.prog.types.size + Made.depth) 96 (.agg #[]) "bascule/load.bare").run Try.prog w = .ok (62, (.agg #[])) w := by kernel_rfl
theorem m_tu_bare (w : World) : (Go.method (Try.prog.types.size + Made.depth) 97 (.agg #[]) "bascule/load.bare").run Try.prog w = .ok (66, (.agg #[])) w := by kernel_rfl
theorem m_tr_put (b : Bool) (w : World) : (Go.method (Try.prog.types.size + Made.depth) 94 (.agg #[.bool b]) "bascule/load.put").run Try.prog w = .ok (57, (.agg #[.bool b])) w := by kernel_rfl
theorem m_me_put (w : World) : (Go.method (Try.prog.types.size + Made.depth) 96 (.agg #[]) "bascule/load.put").run Try.prog w = .ok (65, (.agg #[])) w := by kernel_rfl
theorem m_tu_put (w : World) : (Go.method (Try.prog.types.size + Made.depth) 97 (.agg #[]) "bascule/load.put").run Try.prog w = .ok (69, (.agg #[])) w := by kernel_rfl
theorem m_tr_get (b : Bool) (w : World) : (Go.method (Try.prog.types.size + Made.depth) 94 (.agg #[.bool b]) "bascule/load.get").run Try.prog w = .ok (56, (.agg #[.bool b])) w := by kernel_rfl
theorem m_me_get (w : World) : (Go.method (Try.prog.types.size + Made.depth) 96 (.agg #[]) "bascule/load.get").run Try.prog w = .ok (64, (.agg #[])) w := by kernel_rfl
theorem m_tu_get (w : World) : (Go.method (Try.prog.types.size + Made.depth) 97 (.agg #[]) "bascule/load.get").run Try.prog w = .ok (68, (.agg #[])) w := by kernel_rfl
theorem cells_cl (l : LoadT) : D.cls l.cells = true := ldC_cl _ _ _ _ _ _ _ (by unfold LoadT.tl; simp [D.cls, D.cl])
theorem cells_fz (l : LoadT) : D.fzs l.cells = l.cells := by unfold LoadT.cells; rw [ldC_fzs]; rfl
theorem ld_cl (k : Int) (am fe : Nat) (tk : List UInt8) (ho : Int) (tp : List UInt8) (a b c : Int) (s : ByteArray) (d e : D) (h1 : d.cl = true) (h2 : e.cl = true) : D.cls (ldC k am fe tk ho tp [.int .i64 a, .int .i64 b, .str s, d, .int .i64 c, e]) = true := ldC_cl _ _ _ _ _ _ _ (by show (true && (true && (true && (d.cl && (true && (e.cl && true)))))) = true; rw [h1, h2]; rfl)
theorem ld_fz (k : Int) (am fe : Nat) (tk : List UInt8) (ho : Int) (tp : List UInt8) (a b c : Int) (s : ByteArray) (d e : D) (h1 : d.fz = d) (h2 : e.fz = e) : D.fzs (ldC k am fe tk ho tp [.int .i64 a, .int .i64 b, .str s, d, .int .i64 c, e]) = ldC k am fe tk ho tp [.int .i64 a, .int .i64 b, .str s, d, .int .i64 c, e] := by
  rw [ldC_fzs]
  show ldC k am fe tk ho tp [.int .i64 a, .int .i64 b, .str s, d.fz, .int .i64 c, e.fz] = _
  rw [h1, h2]
theorem Check_tr (p : Bool) (am fe : Nat) (tk : List UInt8) (hn : Nat) (tp : List UInt8) (tn : Nat) (da : List UInt8) (h1 : tk.length = 32) (h2 : tp.length = 32) (ha : am < M256) (hf : fe < M256) (hh : hn ≤ 65535) (ht : tn ≤ 65535) (e : Int)
    (he : (if decide (fe ≤ am ∧ da.length ≤ (if p then 100 else 0)) then 0 else 3) = e) : Pur Try.prog 15 [.agg (trL p am fe tk hn tp tn da).cells] (.int .i64 e) := by
  have f0 := ldC_k (kN p) am fe tk hn tp (trL p am fe tk hn tp tn da).tl
  have fa := ldC_all (k := kN p) (am := am) (fe := fe) (ho := hn) h1 h2 (trL p am fe tk hn tp tn da).tl rfl
  refine Check_gen (T := 94) (v := .agg #[.bool p]) (dr := .agg [.bool p]) f0 fa (kind_tr p) _ (tr_check p (trL p am fe tk hn tp tn da) h1 h2 ha hf _ ?_) (tr_bare p (trL p am fe tk hn tp tn da) h1 h2 _ rfl)
    (pur_upl (same_self (trL p am fe tk hn tp tn da) h1 h2 ha hf) (.cons (.refl _) (.cons (.agg_ (ldC_ups (.cons (.refl _) (.cons (.refl _) (.cons (.refl _) (.cons (.refl _) (.cons (.refl _) (.cons (.nil _) .nil)))))))) .nil)))
    (m_tr_check p) (m_tr_bare p) (one_rep p) rfl rfl (cells_cl (trL p am fe tk hn tp tn da)) (cells_fz (trL p am fe tk hn tp tn da)) (ld_cl _ _ _ _ _ _ _ _ _ _ _ _ rfl rfl) (ld_fz _ _ _ _ _ _ _ _ _ _ _ _ rfl rfl) e he
  show decide ((0 ≤ (hn : Int) ∧ (hn : Int) ≤ 65535) ∧ (0 ≤ (tn : Int) ∧ (tn : Int) ≤ 65535) ∧ fe ≤ am ∧ da.length ≤ (if p then 100 else 0)) = decide (fe ≤ am ∧ da.length ≤ (if p then 100 else 0))
  apply decide_eq_decide.2
  exact ⟨fun h => h.2.2, fun h => ⟨⟨by omega, by omega⟩, ⟨by omega, by omega⟩, h⟩⟩
theorem M_pos : 0 < M256 := by decide
theorem Check_me (tk : List UInt8) (hn dn : Nat) (sy : ByteArray) (sl : List UInt8) (hsl : sy.data.toList = sl) (hsb : sl.length ≤ 140737488355328) (h1 : tk.length = 32) (hh : hn ≤ 65535) (e : Int)
    (he : (if (decide (dn ≤ 77) && decide (sl.length ≤ 32)) && sl.all (fun c => c != 0) then 0 else 3) = e) : Pur Try.prog 15 [.agg (meL tk hn dn sy).cells] (.int .i64 e) := by
  have f0 := ldC_k 2 0 0 tk hn z32' (meL tk hn dn sy).tl
  have fa := ldC_all (k := 2) (am := 0) (fe := 0) (ho := hn) h1 z32_len (meL tk hn dn sy).tl rfl
  refine Check_gen (T := 96) (v := .agg #[]) (dr := .agg []) f0 fa kindOf_2 _ (me_check (meL tk hn dn sy) h1 z32_len _ sl hsl hsb ?_) (me_bare (meL tk hn dn sy) h1 z32_len _ rfl)
    (pur_upl (same_self (meL tk hn dn sy) h1 z32_len M_pos M_pos) (.cons (.refl _) (.cons (.agg_ (ldC_ups (.cons (.refl _) (.cons (.refl _) (.cons (.refl _) (.cons (.nil _) (.cons (.refl _) (.cons (.nil _) .nil)))))))) .nil)))
    m_me_check m_me_bare no_rep rfl rfl (cells_cl (meL tk hn dn sy)) (cells_fz (meL tk hn dn sy)) (ld_cl _ _ _ _ _ _ _ _ _ _ _ _ rfl rfl) (ld_fz _ _ _ _ _ _ _ _ _ _ _ _ rfl rfl) e he
  show ((decide (0 ≤ (hn : Int) ∧ (hn : Int) ≤ 65535) && (decide (0 ≤ (dn : Int) ∧ (dn : Int) ≤ 77) && decide (sl.length ≤ 32))) && sl.all (fun c => c != 0)) = ((decide (dn ≤ 77) && decide (sl.length ≤ 32)) && sl.all (fun c => c != 0))
  rw [decide_eq_true (show 0 ≤ (hn : Int) ∧ (hn : Int) ≤ 65535 by omega), Bool.true_and]
  have : decide (0 ≤ (dn : Int) ∧ (dn : Int) ≤ 77) = decide (dn ≤ 77) := decide_eq_decide.2 ⟨fun h => by omega, fun h => by omega⟩
  rw [this]
theorem Check_tu (xn n : Nat) (ks : List (List UInt8)) (hx : xn ≤ 4294967295) (e : Int)
    (he : (if decide (1 ≤ n ∧ n ≤ 19) then 0 else 3) = e) : Pur Try.prog 15 [.agg (tuL xn n ks).cells] (.int .i64 e) := by
  have f0 := ldC_k 4 0 0 z32' 0 z32' (tuL xn n ks).tl
  have fa := ldC_all (k := 4) (am := 0) (fe := 0) (ho := 0) z32_len z32_len (tuL xn n ks).tl rfl
  refine Check_gen (T := 97) (v := .agg #[]) (dr := .agg []) f0 fa kindOf_4 _ (tu_check (tuL xn n ks) z32_len z32_len _ ?_) (tu_bare (tuL xn n ks) z32_len z32_len _ rfl)
    (pur_upl (same_self (tuL xn n ks) z32_len z32_len M_pos M_pos) (.cons (.refl _) (.cons (.agg_ (ldC_ups (.cons (.refl _) (.cons (.refl _) (.cons (.refl _) (.cons (.nil _) (.cons (.refl _) (.cons (.refl _) .nil)))))))) .nil)))
    m_tu_check m_tu_bare no_rep rfl rfl (cells_cl (tuL xn n ks)) (cells_fz (tuL xn n ks)) (ld_cl _ _ _ _ _ _ _ _ _ _ _ _ rfl rfl) (ld_fz _ _ _ _ _ _ _ _ _ _ _ _ rfl rfl) e he
  show decide ((0 ≤ (xn : Int) ∧ (xn : Int) ≤ 4294967295) ∧ 1 ≤ n ∧ n ≤ 19) = decide (1 ≤ n ∧ n ≤ 19)
  apply decide_eq_decide.2
  exact ⟨fun h => h.2, fun h => ⟨⟨by omega, by omega⟩, h⟩⟩
theorem bs_one (c : UInt8) (l : List UInt8) : [D.int .u8 (c.toNat : Int)] ++ bs l = bs (c :: l) := rfl
/-- the bytes of each kind -/
def trB (p : Bool) (am fe : Nat) (tk : List UInt8) (hn : Nat) (tp : List UInt8) (tn : Nat) (da : List UInt8) : List UInt8 := (if p then 3 else 1) :: (b32 am ++ (tk ++ (toB 2 hn ++ (tp ++ (toB 2 tn ++ (b32 fe ++ da))))))
def meB (tk : List UInt8) (hn dn : Nat) (sl : List UInt8) : List UInt8 := 2 :: (tk ++ (toB 2 hn ++ ([UInt8.ofNat dn] ++ pad sl)))
def tuB (xn n : Nat) (ks : List (List UInt8)) : List UInt8 := 4 :: (toB 4 xn ++ ([UInt8.ofNat n] ++ ks.flatten))
theorem Encode_tr (p : Bool) (am fe : Nat) (tk : List UInt8) (hn : Nat) (tp : List UInt8) (tn : Nat) (da : List UInt8) (h1 : tk.length = 32) (h2 : tp.length = 32) (ha : am < M256) (hf : fe < M256) (hh : hn ≤ 65535) (ht : tn ≤ 65535) (hfa : fe ≤ am) (hd : da.length ≤ (if p then 100 else 0)) (no : Nat) (hno : (trB p am fe tk hn tp tn da).length = no) :
    Pur Try.prog 13 [.agg (trL p am fe tk hn tp tn da).cells] (.tup [.slice .frozen no (bs (trB p am fe tk hn tp tn da)), .int .i64 0]) := by
  have f0 := ldC_k (kN p) am fe tk hn tp (trL p am fe tk hn tp tn da).tl
  have fa := ldC_all (k := kN p) (am := am) (fe := fe) (ho := hn) h1 h2 (trL p am fe tk hn tp tn da).tl rfl
  have hd9 : da.length ≤ 1000 := by
    cases p with
    | false => have : da.length ≤ 0 := hd; omega
    | true => have : da.length ≤ 100 := hd; omega
  have hl : (b32 am ++ (tk ++ (toB 2 hn ++ (tp ++ (toB 2 tn ++ (b32 fe ++ da)))))).length = 132 + da.length := by simp [b32_len, h1, h2, toB_2]; omega
  refine Encode_gen (T := 94) (v := .agg #[.bool p]) (dr := .agg [.bool p]) f0 fa (kind_tr p) (Check_tr p am fe tk hn tp tn da h1 h2 ha hf hh ht 0 (by rw [if_pos (decide_eq_true ⟨hfa, hd⟩)])) (132 + da.length) no _ _ (tr_put p (trL p am fe tk hn tp tn da) h1 h2 hn tn rfl rfl hh ht da.length _ rfl hd9 rfl _ rfl) ?_ (by omega) ?_ (if p then 3 else 1) ?_ ?_
    (m_tr_put p) (one_rep p) rfl rfl (cells_cl (trL p am fe tk hn tp tn da)) (cells_fz (trL p am fe tk hn tp tn da))
  · show (132 + da.length) * 1 = (bs (b32 am ++ (tk ++ (toB 2 hn ++ (tp ++ (toB 2 tn ++ (b32 fe ++ da))))))).length
    rw [bs_len, hl]; omega
  · unfold trB at hno
    rw [List.length_cons, hl] at hno; omega
  · cases p <;> rfl
  · exact bs_one _ _
theorem Encode_me (tk : List UInt8) (hn dn : Nat) (sy : ByteArray) (sl : List UInt8) (hsl : sy.data.toList = sl) (h1 : tk.length = 32) (hh : hn ≤ 65535) (hd : dn ≤ 77) (hs : sl.length ≤ 32) (hz : sl.all (fun c => c != 0) = true) :
    Pur Try.prog 13 [.agg (meL tk hn dn sy).cells] (.tup [.slice .frozen 68 (bs (meB tk hn dn sl)), .int .i64 0]) := by
  have f0 := ldC_k 2 0 0 tk hn z32' (meL tk hn dn sy).tl
  have fa := ldC_all (k := 2) (am := 0) (fe := 0) (ho := hn) h1 z32_len (meL tk hn dn sy).tl rfl
  refine Encode_gen (T := 96) (v := .agg #[]) (dr := .agg []) f0 fa kindOf_2 (Check_me tk hn dn sy sl hsl (by omega) h1 hh 0 (by rw [decide_eq_true hd, decide_eq_true hs, hz]; rfl)) 67 68 _ _ (me_put (meL tk hn dn sy) h1 z32_len hn dn rfl rfl hh (by omega) sl hsl hs _ rfl) ?_ (by omega) rfl 2 rfl (bs_one _ _)
    m_me_put no_rep rfl rfl (cells_cl (meL tk hn dn sy)) (cells_fz (meL tk hn dn sy))
  show 67 * 1 = (bs (tk ++ (toB 2 hn ++ ([UInt8.ofNat dn] ++ pad sl)))).length
  rw [bs_len]; simp [h1, toB_2, pad_len sl hs]
theorem Encode_tu (xn n : Nat) (ks : List (List UInt8)) (hk : ∀ k ∈ ks, k.length = 20) (hn : ks.length = n) (hx : xn ≤ 4294967295) (h1 : 1 ≤ n) (h2 : n ≤ 19) (no : Nat) (hno : 6 + 20 * n = no) :
    Pur Try.prog 13 [.agg (tuL xn n ks).cells] (.tup [.slice .frozen no (bs (tuB xn n ks)), .int .i64 0]) := by
  have f0 := ldC_k 4 0 0 z32' 0 z32' (tuL xn n ks).tl
  have fa := ldC_all (k := 4) (am := 0) (fe := 0) (ho := 0) z32_len z32_len (tuL xn n ks).tl rfl
  refine Encode_gen (T := 97) (v := .agg #[]) (dr := .agg []) f0 fa kindOf_4 (Check_tu xn n ks hx 0 (by rw [if_pos (decide_eq_true ⟨h1, h2⟩)])) (5 + 20 * n) no _ _ (tu_put (tuL xn n ks) z32_len z32_len xn rfl ks hk n hn rfl rfl (by omega) _ rfl _ rfl) ?_ (by omega) (by omega) 4 rfl (bs_one _ _)
    m_tu_put no_rep rfl rfl (cells_cl (tuL xn n ks)) (cells_fz (tuL xn n ks))
  show (5 + 20 * n) * 1 = (bs (toB 4 xn ++ ([UInt8.ofNat n] ++ ks.flatten))).length
  rw [bs_len, List.length_append, toB_len, List.length_append, (keys_at ks hk).1, hn]; simp; omega
end Go.Proofs.Ytbpaimfnfigjpaa
