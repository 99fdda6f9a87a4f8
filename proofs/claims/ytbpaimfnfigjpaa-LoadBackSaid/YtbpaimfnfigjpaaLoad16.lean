/- load: what Decode makes of any bytes. Conditions: at most 2 to the 47 bytes. -/
import Derived.Test.YtbpaimfnfigjpaaLoad15
namespace Go.Proofs.Ytbpaimfnfigjpaa
open Go.RowKit Go.Lib Go.IntWalk
set_option linter.unusedVariables false
set_option maxRecDepth 100000
/-- a load that is right: read of these bytes, and written so -/
def Dec2 (b : List UInt8) : Prop :=
  (∃ e : Int, e ≠ 0 ∧ Pur Try.prog 14 [.slice .frozen b.length (bs b)] (.tup [.agg ld0, .int .i64 e])) ∨
  (∃ X : List D, X.length = 80 ∧ D.fzs X = X ∧ D.cls X = true ∧ Pur Try.prog 14 [.slice .frozen b.length (bs b)] (.tup [.agg X, .int .i64 0]) ∧ Pur Try.prog 15 [.agg X] (.int .i64 0) ∧ Pur Try.prog 13 [.agg X] (.tup [.slice .frozen b.length (bs b), .int .i64 0]))
theorem cut_80 (X : List D) (h : X.length = 80) (ze : List D) : cut ⟨true, 80, ze⟩ 0 X = some (.agg X) := by
  unfold cut
  simp only [cond_true, Nat.zero_add, List.drop_zero]
  rw [h, Nat.ble_self_eq_true, cond_true, List.take_of_length_le (by omega)]
theorem lay_80 (X : List D) (h : X.length = 80) (cs : List D) (hc : cs.length = 80) : splice 0 X cs = some X := by
  unfold splice
  rw [Nat.ble_eq_true_of_le (by rw [h, hc]; exact Nat.le_refl _), cond_true, Nat.zero_add, List.drop_of_length_le (by rw [h, hc]; exact Nat.le_refl _)]
  simp
theorem n_tr (b : Bool) (w : World) : (Go.nilAhead (Try.prog.types.size + Made.depth) 94 (.agg #[.bool b]) "bascule/load.get").run Try.prog w = .ok (some false) w := by kernel_rfl
theorem n_me (w : World) : (Go.nilAhead (Try.prog.types.size + Made.depth) 96 (.agg #[]) "bascule/load.get").run Try.prog w = .ok (some false) w := by kernel_rfl
theorem n_tu (w : World) : (Go.nilAhead (Try.prog.types.size + Made.depth) 97 (.agg #[]) "bascule/load.get").run Try.prog w = .ok (some false) w := by kernel_rfl
theorem ld0_len : ld0.length = 80 := ldC_len z32_len z32_len _ rfl
theorem ld0_cl : D.cls ld0 = true := ld_cl 0 0 0 z32' 0 z32' 0 0 0 ⟨#[]⟩ (.slice .nil 0 []) (.slice .nil 0 []) rfl rfl
theorem ldC_kind (k : Int) (am fe : Nat) (tk : List UInt8) (ho : Int) (tp : List UInt8) (tl : List D) : splice 0 [.int .i64 k] (ldC 0 am fe tk ho tp tl) = some (ldC k am fe tk ho tp tl) := by
  unfold splice ldC
  rw [Nat.ble_eq_true_of_le (by simp), cond_true]; rfl
theorem take_1 (l : List UInt8) (n : Nat) (h : n < l.length) : ∃ c, l.drop n = c :: l.drop (n + 1) := ⟨l[n], List.drop_eq_getElem_cons h⟩
theorem cut_tr (r : List UInt8) (h : 132 ≤ r.length) : ∃ (A tk : List UInt8) (x1 x2 : UInt8) (tp : List UInt8) (y1 y2 : UInt8) (F da : List UInt8), A.length = 32 ∧ tk.length = 32 ∧ tp.length = 32 ∧ F.length = 32 ∧ r = A ++ (tk ++ (x1 :: x2 :: (tp ++ (y1 :: y2 :: (F ++ da))))) := by
  have sp : ∀ (l : List UInt8), 32 ≤ l.length → ∃ a b, l = a ++ b ∧ a.length = 32 ∧ b.length = l.length - 32 := fun l hl => ⟨l.take 32, l.drop 32, (List.take_append_drop 32 l).symm, by rw [List.length_take]; omega, by rw [List.length_drop]⟩
  have s2 : ∀ (l : List UInt8), 2 ≤ l.length → ∃ x y b, l = x :: y :: b ∧ b.length = l.length - 2 := fun l hl => by
    match l, hl with
    | x :: y :: b, _ => exact ⟨x, y, b, rfl, by simp⟩
  obtain ⟨A, r1, e1, hA, h1⟩ := sp r (by omega)
  obtain ⟨tk, r2, e2, htk, h2⟩ := sp r1 (by omega)
  obtain ⟨x1, x2, r3, e3, h3⟩ := s2 r2 (by omega)
  obtain ⟨tp, r4, e4, htp, h4⟩ := sp r3 (by omega)
  obtain ⟨y1, y2, r5, e5, h5⟩ := s2 r4 (by omega)
  obtain ⟨F, da, e6, hF, h6⟩ := sp r5 (by omega)
  exact ⟨A, tk, x1, x2, tp, y1, y2, F, da, hA, htk, htp, hF, by rw [e1, e2, e3, e4, e5, e6]⟩
theorem two_nm (x y : UInt8) : toB 2 (nm [x, y]) = [x, y] := toB_nm 2 [x, y] rfl
theorem nm_2_le (x y : UInt8) : nm [x, y] ≤ 65535 := by
  rw [nm_2]
  have := x.toNat_lt
  have := y.toNat_lt
  omega
theorem tr_any (p : Bool) (c : UInt8) (hc : (if p then 3 else 1) = c) (r : List UInt8) (hr : (c :: r).length ≤ 140737488355300) : Dec2 (c :: r) := by
  have hk : Pur Try.prog 33 [.int .i64 (c.toNat : Int)] (.tup [.raw (.iface 94 (.agg #[.bool p])), .bool true]) := by
    subst hc
    cases p
    · exact kindOf_1
    · exact kindOf_3
  have hkc : (c.toNat : Int) = kN p := by subst hc; cases p <;> rfl
  have hL9 : (c :: r : List UInt8).length ≤ 140737488355328 := by omega
  rw [List.length_cons] at hr
  by_cases h : r.length < 132
  · exact .inl ⟨4, by decide, Decode_err c r _ r.length rfl rfl hL9 hk ld0 ld0_len (lay_80 _ ld0_len) ld0_cl 4 (tr_get_few p r.length (bs r) h) (m_tr_get p) (n_tr p) (one_rep p) rfl rfl (by decide)⟩
  obtain ⟨A, tk, x1, x2, tp, y1, y2, F, da, hA, h1, h2, hF, e⟩ := cut_tr r (by omega)
  have hg := tr_get p A tk x1 x2 tp y1 y2 F da r hA h1 h2 hF e r.length da.length rfl rfl (by omega) _ _ _ _ rfl rfl rfl rfl
  have ha := nm_lt32 A hA
  have hf := nm_lt32 F hF
  have eB : trB p (nm A) (nm F) tk (nm [x1, x2]) tp (nm [y1, y2]) da = c :: r := by
    unfold trB
    rw [two_nm, two_nm, b32_nm A hA, b32_nm F hF, hc, e]; rfl
  have hx := nm_2_le x1 x2
  have hy := nm_2_le y1 y2
  have up : Ups [.agg (ldC (kN p) (nm A) (nm F) tk (nm [x1, x2] : Nat) tp [.int .i64 (nm [y1, y2] : Nat), .int .i64 0, .str ⟨#[]⟩, .slice .frozen da.length (bs da), .int .i64 0, .slice .nil 0 []])] [.agg (trL p (nm A) (nm F) tk (nm [x1, x2]) tp (nm [y1, y2]) da).cells] := .cons (.agg_ (ldC_ups (.cons (.refl _) (.cons (.refl _) (.cons (.refl _) (.cons (.refl _) (.cons (.refl _) (.cons (.nil _) .nil)))))))) .nil
  have hC := pur_upl (Check_tr p (nm A) (nm F) tk (nm [x1, x2]) tp (nm [y1, y2]) da h1 h2 ha hf hx hy _ rfl) up
  have hYl := ldC_len (k := 0) (am := nm A) (fe := nm F) (ho := (nm [x1, x2] : Nat)) h1 h2 [.int .i64 (nm [y1, y2] : Nat), .int .i64 0, .str ⟨#[]⟩, .slice .frozen da.length (bs da), .int .i64 0, .slice .nil 0 []] rfl
  have hXl := ldC_len (k := kN p) (am := nm A) (fe := nm F) (ho := (nm [x1, x2] : Nat)) h1 h2 [.int .i64 (nm [y1, y2] : Nat), .int .i64 0, .str ⟨#[]⟩, .slice .frozen da.length (bs da), .int .i64 0, .slice .nil 0 []] rfl
  by_cases hv : decide (nm F ≤ nm A ∧ da.length ≤ (if p then 100 else 0)) = true
  · rw [if_pos hv] at hC
    have hE := pur_upl (Encode_tr p (nm A) (nm F) tk (nm [x1, x2]) tp (nm [y1, y2]) da h1 h2 ha hf hx hy (of_decide_eq_true hv).1 (of_decide_eq_true hv).2 _ rfl) up
    rw [eB] at hE
    exact .inr ⟨_, hXl, ld_fz _ _ _ _ _ _ _ _ _ _ _ _ rfl rfl, ld_cl _ _ _ _ _ _ _ _ _ _ _ _ rfl rfl,
      Decode_ok c r _ r.length rfl rfl hL9 hk _ hYl (lay_80 _ hYl) (ld_cl _ _ _ _ _ _ _ _ _ _ _ _ rfl rfl) 0 hg (m_tr_get p) (n_tr p) (one_rep p) rfl rfl _ (by rw [hkc]; exact ldC_kind _ _ _ _ _ _ _) (cut_80 _ hXl) (ld_fz _ _ _ _ _ _ _ _ _ _ _ _ rfl rfl) (ld_cl _ _ _ _ _ _ _ _ _ _ _ _ rfl rfl) hXl (lay_80 _ hXl) 0 hC rfl rfl, hC, hE⟩
  · rw [if_neg hv] at hC
    exact .inl ⟨3, by decide, Decode_form c r _ r.length rfl rfl hL9 hk _ hYl (lay_80 _ hYl) (ld_cl _ _ _ _ _ _ _ _ _ _ _ _ rfl rfl) 0 hg (m_tr_get p) (n_tr p) (one_rep p) rfl rfl _ (by rw [hkc]; exact ldC_kind _ _ _ _ _ _ _) (cut_80 _ hXl) (ld_fz _ _ _ _ _ _ _ _ _ _ _ _ rfl rfl) (ld_cl _ _ _ _ _ _ _ _ _ _ _ _ rfl rfl) 3 hC rfl (by decide)⟩
theorem cut_me (r : List UInt8) (h : r.length = 67) : ∃ (tk : List UInt8) (x1 x2 dc : UInt8) (S : List UInt8), tk.length = 32 ∧ S.length = 32 ∧ r = tk ++ (x1 :: x2 :: dc :: S) := by
  have e1 : r = r.take 32 ++ r.drop 32 := (List.take_append_drop 32 r).symm
  have h1 : (r.take 32).length = 32 := by rw [List.length_take]; omega
  have h2 : (r.drop 32).length = 35 := by rw [List.length_drop]; omega
  generalize r.take 32 = tk at *
  generalize r.drop 32 = q at *
  match q, h2 with
  | x1 :: x2 :: dc :: S, h2 => exact ⟨tk, x1, x2, dc, S, h1, by simpa using h2, e1⟩
theorem trim : ∀ (n : Nat) (S : List UInt8), S.length = n → ∃ sl : List UInt8, sl.length ≤ n ∧ S = sl ++ List.replicate (n - sl.length) 0 ∧ ∀ c, sl[sl.length - 1]? = some c → c ≠ 0
  | 0, S, h => ⟨[], Nat.zero_le _, by rw [List.eq_nil_of_length_eq_zero h]; rfl, fun c hc => by simp at hc⟩
  | n + 1, S, h => by
    have hne : S ≠ [] := fun e => by rw [e] at h; cases h
    obtain ⟨i, c, rfl⟩ : ∃ i c, S = i ++ [c] := ⟨S.dropLast, S.getLast hne, (List.dropLast_concat_getLast hne).symm⟩
    have hi : i.length = n := by simpa using h
    by_cases hc : c = 0
    · obtain ⟨sl, h1, h2, h3⟩ := trim n i hi
      refine ⟨sl, by omega, ?_, h3⟩
      have e : n + 1 - sl.length = (n - sl.length) + 1 := by omega
      rw [e, List.replicate_succ', ← List.append_assoc, ← h2, hc]
    · refine ⟨i ++ [c], by simp; omega, by simp [hi], fun d hd => ?_⟩
      simp at hd
      rw [← hd]; exact hc
theorem me_any (r : List UInt8) (hr : (2 :: r : List UInt8).length ≤ 140737488355300) : Dec2 (2 :: r) := by
  have hk : Pur Try.prog 33 [.int .i64 (((2 : UInt8).toNat : Nat) : Int)] (.tup [.raw (.iface 96 (.agg #[])), .bool true]) := kindOf_2
  have hL9 : (2 :: r : List UInt8).length ≤ 140737488355328 := by omega
  rw [List.length_cons] at hr
  by_cases h : r.length ≠ 67
  · have hg := me_get_not r.length (bs r) h _ rfl
    by_cases hlt : r.length < 67
    · rw [if_pos hlt] at hg
      exact .inl ⟨4, by decide, Decode_err 2 r _ r.length rfl rfl hL9 hk ld0 ld0_len (lay_80 _ ld0_len) ld0_cl 4 hg m_me_get n_me no_rep rfl rfl (by decide)⟩
    · rw [if_neg hlt] at hg
      exact .inl ⟨3, by decide, Decode_err 2 r _ r.length rfl rfl hL9 hk ld0 ld0_len (lay_80 _ ld0_len) ld0_cl 3 hg m_me_get n_me no_rep rfl rfl (by decide)⟩
  have h : r.length = 67 := Decidable.not_not.1 h
  obtain ⟨tk, x1, x2, dc, S, h1, hS, e⟩ := cut_me r h
  obtain ⟨sl, hs, eS, hlast⟩ := trim 32 S hS
  have eP : S = pad sl := eS
  rw [eP] at e
  have hg := me_get tk x1 x2 dc sl r h1 hs hlast e _ rfl
  have hx := nm_2_le x1 x2
  have eB : meB tk (nm [x1, x2]) dc.toNat sl = 2 :: r := by
    unfold meB
    rw [two_nm, e, UInt8.ofNat_toNat]; rfl
  have hsl : (⟨sl.toArray⟩ : ByteArray).data.toList = sl := rfl
  have up : Ups [.agg (ldC 2 0 0 tk (nm [x1, x2] : Nat) z32' [.int .i64 0, .int .i64 (dc.toNat : Int), .str ⟨sl.toArray⟩, .slice .nil 0 [], .int .i64 0, .slice .nil 0 []])] [.agg (meL tk (nm [x1, x2]) dc.toNat ⟨sl.toArray⟩).cells] := .cons (.agg_ (ldC_ups (.cons (.refl _) (.cons (.refl _) (.cons (.refl _) (.cons (.nil _) (.cons (.refl _) (.cons (.nil _) .nil)))))))) .nil
  have hC := pur_upl (Check_me tk (nm [x1, x2]) dc.toNat ⟨sl.toArray⟩ sl hsl (by omega) h1 hx _ rfl) up
  have hYl := ldC_len (k := 0) (am := 0) (fe := 0) (ho := (nm [x1, x2] : Nat)) h1 z32_len [.int .i64 0, .int .i64 (dc.toNat : Int), .str ⟨sl.toArray⟩, .slice .nil 0 [], .int .i64 0, .slice .nil 0 []] rfl
  have hXl := ldC_len (k := 2) (am := 0) (fe := 0) (ho := (nm [x1, x2] : Nat)) h1 z32_len [.int .i64 0, .int .i64 (dc.toNat : Int), .str ⟨sl.toArray⟩, .slice .nil 0 [], .int .i64 0, .slice .nil 0 []] rfl
  rw [← h] at hg
  by_cases hv : ((decide (dc.toNat ≤ 77) && decide (sl.length ≤ 32)) && sl.all (fun c => c != 0)) = true
  · rw [if_pos hv] at hC
    simp only [Bool.and_eq_true, decide_eq_true_eq] at hv
    have hE := pur_upl (Encode_me tk (nm [x1, x2]) dc.toNat ⟨sl.toArray⟩ sl hsl h1 hx hv.1.1 hv.1.2 hv.2) up
    rw [eB, show (68 : Nat) = (2 :: r : List UInt8).length by rw [List.length_cons, h]] at hE
    exact .inr ⟨_, hXl, ld_fz _ _ _ _ _ _ _ _ _ _ _ _ rfl rfl, ld_cl _ _ _ _ _ _ _ _ _ _ _ _ rfl rfl,
      Decode_ok 2 r _ r.length rfl rfl hL9 hk _ hYl (lay_80 _ hYl) (ld_cl _ _ _ _ _ _ _ _ _ _ _ _ rfl rfl) 0 hg m_me_get n_me no_rep rfl rfl _ (ldC_kind _ _ _ _ _ _ _) (cut_80 _ hXl) (ld_fz _ _ _ _ _ _ _ _ _ _ _ _ rfl rfl) (ld_cl _ _ _ _ _ _ _ _ _ _ _ _ rfl rfl) hXl (lay_80 _ hXl) 0 hC rfl rfl, hC, hE⟩
  · rw [if_neg hv] at hC
    exact .inl ⟨3, by decide, Decode_form 2 r _ r.length rfl rfl hL9 hk _ hYl (lay_80 _ hYl) (ld_cl _ _ _ _ _ _ _ _ _ _ _ _ rfl rfl) 0 hg m_me_get n_me no_rep rfl rfl _ (ldC_kind _ _ _ _ _ _ _) (cut_80 _ hXl) (ld_fz _ _ _ _ _ _ _ _ _ _ _ _ rfl rfl) (ld_cl _ _ _ _ _ _ _ _ _ _ _ _ rfl rfl) 3 hC rfl (by decide)⟩
theorem cut_ks : ∀ (n : Nat) (q : List UInt8), q.length = 20 * n → ∃ ks : List (List UInt8), ks.length = n ∧ (∀ k ∈ ks, k.length = 20) ∧ ks.flatten = q
  | 0, q, h => ⟨[], rfl, fun k hk => absurd hk List.not_mem_nil, (List.eq_nil_of_length_eq_zero h).symm⟩
  | n + 1, q, h => by
    obtain ⟨ks, h1, h2, h3⟩ := cut_ks n (q.drop 20) (by rw [List.length_drop]; omega)
    refine ⟨q.take 20 :: ks, by rw [List.length_cons, h1], fun k hk => ?_, ?_⟩
    · rcases List.mem_cons.1 hk with rfl | hk
      · rw [List.length_take]; omega
      · exact h2 k hk
    · rw [List.flatten_cons, h3, List.take_append_drop]
theorem four_nm (a b c d : UInt8) : toB 4 (nm [a, b, c, d]) = [a, b, c, d] := toB_nm 4 [a, b, c, d] rfl
theorem nm_4_le (a b c d : UInt8) : nm [a, b, c, d] ≤ 4294967295 := by
  have := nm_lt [a, b, c, d]
  have e : 256 ^ [a, b, c, d].length = 4294967296 := by simp
  omega
theorem tu_any (r : List UInt8) (hr : (4 :: r : List UInt8).length ≤ 140737488355300) : Dec2 (4 :: r) := by
  have hk : Pur Try.prog 33 [.int .i64 (((4 : UInt8).toNat : Nat) : Int)] (.tup [.raw (.iface 97 (.agg #[])), .bool true]) := kindOf_4
  have hL9 : (4 :: r : List UInt8).length ≤ 140737488355328 := by omega
  rw [List.length_cons] at hr
  by_cases h : r.length < 5
  · exact .inl ⟨4, by decide, Decode_err 4 r _ r.length rfl rfl hL9 hk ld0 ld0_len (lay_80 _ ld0_len) ld0_cl 4 (tu_get_few r.length (bs r) h) m_tu_get n_tu no_rep rfl rfl (by decide)⟩
  obtain ⟨a0, a1, a2, a3, c, q, e⟩ : ∃ a0 a1 a2 a3 c q, r = a0 :: a1 :: a2 :: a3 :: c :: q := by
    match r, (show 5 ≤ r.length by omega) with
    | a0 :: a1 :: a2 :: a3 :: c :: q, _ => exact ⟨a0, a1, a2, a3, c, q, rfl⟩
  have hlq : r.length = 5 + q.length := by rw [e]; simp; omega
  by_cases h1 : r.length < 5 + 20 * c.toNat
  · exact .inl ⟨4, by decide, Decode_err 4 r _ r.length rfl rfl hL9 hk ld0 ld0_len (lay_80 _ ld0_len) ld0_cl 4 (tu_get_short a0 a1 a2 a3 c q r e r.length rfl h1) m_tu_get n_tu no_rep rfl rfl (by decide)⟩
  by_cases h2 : 5 + 20 * c.toNat < r.length
  · exact .inl ⟨3, by decide, Decode_err 4 r _ r.length rfl rfl hL9 hk ld0 ld0_len (lay_80 _ ld0_len) ld0_cl 3 (tu_get_long a0 a1 a2 a3 c q r e r.length rfl (by omega) h2) m_tu_get n_tu no_rep rfl rfl (by decide)⟩
  obtain ⟨ks, hkn, hk20, hkf⟩ := cut_ks c.toNat q (by omega)
  have hg := tu_get a0 a1 a2 a3 c ks hk20 r (by rw [e, hkf]) c.toNat hkn rfl _ rfl r.length (by omega)
  have hx := nm_4_le a0 a1 a2 a3
  have eB : tuB (nm [a0, a1, a2, a3]) c.toNat ks = 4 :: r := by
    unfold tuB
    rw [four_nm, e, hkf, UInt8.ofNat_toNat]; rfl
  have up : Ups [.agg (ldC 4 0 0 z32' 0 z32' [.int .i64 0, .int .i64 0, .str ⟨#[]⟩, .slice .nil 0 [], .int .i64 (nm [a0, a1, a2, a3] : Nat), .slice .frozen c.toNat (bs ks.flatten)])] [.agg (tuL (nm [a0, a1, a2, a3]) c.toNat ks).cells] := .cons (.agg_ (ldC_ups (.cons (.refl _) (.cons (.refl _) (.cons (.refl _) (.cons (.nil _) (.cons (.refl _) (.cons (.refl _) .nil)))))))) .nil
  have hC := pur_upl (Check_tu (nm [a0, a1, a2, a3]) c.toNat ks hx _ rfl) up
  have hXl := ldC_len (k := 4) (am := 0) (fe := 0) (ho := 0) z32_len z32_len [.int .i64 0, .int .i64 0, .str ⟨#[]⟩, .slice .nil 0 [], .int .i64 (nm [a0, a1, a2, a3] : Nat), .slice .frozen c.toNat (bs ks.flatten)] rfl
  by_cases hv : decide (1 ≤ c.toNat ∧ c.toNat ≤ 19) = true
  · rw [if_pos hv] at hC
    have hE := pur_upl (Encode_tu (nm [a0, a1, a2, a3]) c.toNat ks hk20 hkn hx (of_decide_eq_true hv).1 (of_decide_eq_true hv).2 (4 :: r : List UInt8).length (by rw [List.length_cons]; omega)) up
    rw [eB] at hE
    exact .inr ⟨_, hXl, ld_fz _ _ _ _ _ _ _ _ _ _ _ _ rfl rfl, ld_cl _ _ _ _ _ _ _ _ _ _ _ _ rfl rfl,
      Decode_ok 4 r _ r.length rfl rfl hL9 hk _ (tuC_len _ _) (tuC_lay _ _) (ld_cl _ _ _ _ _ _ _ _ _ _ _ _ rfl rfl) 0 hg m_tu_get n_tu no_rep rfl rfl _ (ldC_kind _ _ _ _ _ _ _) (cut_80 _ hXl) (ld_fz _ _ _ _ _ _ _ _ _ _ _ _ rfl rfl) (ld_cl _ _ _ _ _ _ _ _ _ _ _ _ rfl rfl) hXl (lay_80 _ hXl) 0 hC rfl rfl, hC, hE⟩
  · rw [if_neg hv] at hC
    exact .inl ⟨3, by decide, Decode_form 4 r _ r.length rfl rfl hL9 hk _ (tuC_len _ _) (tuC_lay _ _) (ld_cl _ _ _ _ _ _ _ _ _ _ _ _ rfl rfl) 0 hg m_tu_get n_tu no_rep rfl rfl _ (ldC_kind _ _ _ _ _ _ _) (cut_80 _ hXl) (ld_fz _ _ _ _ _ _ _ _ _ _ _ _ rfl rfl) (ld_cl _ _ _ _ _ _ _ _ _ _ _ _ rfl rfl) 3 hC rfl (by decide)⟩
theorem Decode_any (b : List UInt8) (hb : b.length ≤ 140737488355300) : Dec2 b := by
  cases b with
  | nil => exact .inl ⟨4, by decide, Decode_nil⟩
  | cons c r =>
    by_cases h1 : c = 1
    · exact tr_any false c h1.symm r hb
    by_cases h2 : c = 2
    · subst h2; exact me_any r hb
    by_cases h3 : c = 3
    · exact tr_any true c h3.symm r hb
    by_cases h4 : c = 4
    · subst h4; exact tu_any r hb
    exact .inl ⟨2, by decide, Decode_kind c r _ r.length rfl rfl ⟨h1, h2, h3, h4⟩⟩
end Go.Proofs.Ytbpaimfnfigjpaa
