/- Loads that may be: written, read again, and cut. Conditions: as said. -/
import Derived.Test.YtbpaimfnfigjpaaLoad17
namespace Go.Proofs.Ytbpaimfnfigjpaa
open Go.RowKit Go.Lib Go.IntWalk
set_option linter.unusedVariables false
set_option maxRecDepth 100000

/-- a load that may be, with so many bytes of data -/
def Ldd (A : List D) (dn : Nat) : Prop := ∃ (b : List UInt8) (X : List D), dn + 1 ≤ b.length ∧ b.length ≤ 1000 ∧ A.length = 80 ∧ D.fzs A = A ∧ D.cls A = true ∧ X.length = 80 ∧ D.fzs X = X ∧ D.cls X = true ∧
  (∃ tk z, ∀ ze, cut ⟨false, 1, ze⟩ 77 A = some (.slice tk dn z)) ∧
  Pur Try.prog 15 [.agg A] (.int .i64 0) ∧ Pur Try.prog 13 [.agg A] (.tup [.slice .frozen b.length (bs b), .int .i64 0]) ∧
  Pur Try.prog 14 [.slice .frozen b.length (bs b)] (.tup [.agg X, .int .i64 0]) ∧ Pur Try.prog 16 [.agg A, .agg X] (.bool true) ∧
  ∀ k, k < b.length - dn → Pur Try.prog 14 [.slice .frozen k (bs (b.take k))] (.tup [.agg ld0, .int .i64 4])
theorem nm_w (k n p : Nat) (hp : 256 ^ k = p) (h : n < p) : nm (toB k n) = n := by rw [nm_toB, hp]; exact Nat.mod_eq_of_lt h
theorem trB_len (p : Bool) (am fe : Nat) (tk : List UInt8) (hn : Nat) (tp : List UInt8) (tn : Nat) (da : List UInt8) (h1 : tk.length = 32) (h2 : tp.length = 32) : (trB p am fe tk hn tp tn da).length = 133 + da.length := by
  unfold trB; simp [b32_len, h1, h2, toB_2]; omega
theorem cut_err {c : UInt8} {r : List UInt8} {T : TypeId} {v : Value} {F : FuncId} [HasFn Try.prog F] {dr : D} (hk : Pur Try.prog 33 [.int .i64 (c.toNat : Int)] (.tup [.raw (.iface T v), .bool true])) (hm : ∀ w, (Go.method (Try.prog.types.size + Made.depth) T v "bascule/load.get").run Try.prog w = .ok (F, v) w) (hnil : ∀ w, (Go.nilAhead (Try.prog.types.size + Made.depth) T v "bascule/load.get").run Try.prog w = .ok (some false) w)
    (hrv : ∀ G w, Rep G w dr v) (hdr : dr.fz = dr) (hcd : dr.cl = true) (n : Nat) (hn : n ≤ r.length + 1) (hr : r.length ≤ 2000) (hg : ∀ j, j + 1 < n → Pur Try.prog F [dr, .slice .frozen j (bs (r.take j))] (.tup [.agg ld0, .int .i64 4])) (k : Nat) (hlt : k < n) :
    Pur Try.prog 14 [.slice .frozen k (bs ((c :: r).take k))] (.tup [.agg ld0, .int .i64 4]) := by
  cases k with
  | zero => exact Decode_nil
  | succ j =>
    have hl : (r.take j).length = j := by rw [List.length_take]; omega
    exact Decode_err c (r.take j) (j + 1) j hl rfl (by omega) hk ld0 ld0_len (lay_80 _ ld0_len) ld0_cl 4 (hg j hlt) hm hnil hrv hdr hcd (by decide)
set_option maxHeartbeats 4000000 in
theorem Ldd_tr (p : Bool) (am fe : Nat) (tk : List UInt8) (hn : Nat) (tp : List UInt8) (tn : Nat) (da : List UInt8) (h1 : tk.length = 32) (h2 : tp.length = 32) (ha : am < M256) (hf : fe < M256) (hh : hn ≤ 65535) (ht : tn ≤ 65535) (hfa : fe ≤ am) (hd : da.length ≤ (if p then 100 else 0)) (d : D) (hdd : Up d (.slice .frozen da.length (bs da))) (hdc : d.cl = true) (hdf : d.fz = d) (hds : ∃ t z, d = .slice t da.length z) :
    Ldd (ldC (kN p) am fe tk hn tp [.int .i64 tn, .int .i64 0, .str ⟨#[]⟩, d, .int .i64 0, .slice .nil 0 []]) da.length := by
  have hd9 : da.length ≤ 100 := by
    cases p with
    | false => have : da.length ≤ 0 := hd; omega
    | true => exact hd
  have hbl := trB_len p am fe tk hn tp tn da h1 h2
  have hC := Check_tr p am fe tk hn tp tn da h1 h2 ha hf hh ht 0 (by rw [if_pos (decide_eq_true ⟨hfa, hd⟩)])
  have hE := Encode_tr p am fe tk hn tp tn da h1 h2 ha hf hh ht hfa hd _ rfl
  obtain ⟨c, hc⟩ : ∃ c : UInt8, (if p then 3 else 1) = c := ⟨_, rfl⟩
  have hk : Pur Try.prog 33 [.int .i64 (c.toNat : Int)] (.tup [.raw (.iface 94 (.agg #[.bool p])), .bool true]) := by
    subst hc
    cases p
    · exact kindOf_1
    · exact kindOf_3
  have hkc : (c.toNat : Int) = kN p := by subst hc; cases p <;> rfl
  have u1 : Ups [.agg (ldC (kN p) am fe tk hn tp [.int .i64 tn, .int .i64 0, .str ⟨#[]⟩, d, .int .i64 0, .slice .nil 0 []])] [.agg (trL p am fe tk hn tp tn da).cells] := .cons (.agg_ (ldC_ups (.cons (.refl _) (.cons (.refl _) (.cons (.refl _) (.cons hdd (.cons (.refl _) (.cons (.nil _) .nil)))))))) .nil
  have u2 : Up (.agg (ldC (kN p) am fe tk hn tp [.int .i64 tn, .int .i64 0, .str ⟨#[]⟩, .slice .frozen da.length (bs da), .int .i64 0, .slice .nil 0 []])) (.agg (trL p am fe tk hn tp tn da).cells) := .agg_ (ldC_ups (.cons (.refl _) (.cons (.refl _) (.cons (.refl _) (.cons (.refl _) (.cons (.refl _) (.cons (.nil _) .nil)))))))
  have hAl := ldC_len (k := kN p) (am := am) (fe := fe) (ho := hn) h1 h2 [.int .i64 tn, .int .i64 0, .str ⟨#[]⟩, d, .int .i64 0, .slice .nil 0 []] rfl
  have hXl := ldC_len (k := kN p) (am := am) (fe := fe) (ho := hn) h1 h2 [.int .i64 tn, .int .i64 0, .str ⟨#[]⟩, .slice .frozen da.length (bs da), .int .i64 0, .slice .nil 0 []] rfl
  have hYl := ldC_len (k := 0) (am := am) (fe := fe) (ho := hn) h1 h2 [.int .i64 tn, .int .i64 0, .str ⟨#[]⟩, .slice .frozen da.length (bs da), .int .i64 0, .slice .nil 0 []] rfl
  obtain ⟨r, hr⟩ : ∃ r, b32 am ++ (tk ++ (toB 2 hn ++ (tp ++ (toB 2 tn ++ (b32 fe ++ da))))) = r := ⟨_, rfl⟩
  have eB : trB p am fe tk hn tp tn da = c :: r := by unfold trB; rw [hr, hc]
  obtain ⟨x1, x2, hx⟩ : ∃ x1 x2, toB 2 hn = [x1, x2] := by
    have := toB_2 hn
    match toB 2 hn, this with
    | [a, b], _ => exact ⟨a, b, rfl⟩
  obtain ⟨y1, y2, hy⟩ : ∃ x1 x2, toB 2 tn = [x1, x2] := by
    have := toB_2 tn
    match toB 2 tn, this with
    | [a, b], _ => exact ⟨a, b, rfl⟩
  have hrl : r.length = 132 + da.length := by rw [eB] at hbl; rw [List.length_cons] at hbl; omega
  have hg := tr_get p (b32 am) tk x1 x2 tp y1 y2 (b32 fe) da r (b32_len am) h1 h2 (b32_len fe) (by rw [← hr, hx, hy]; simp only [List.cons_append, List.nil_append]) _ _ rfl rfl (by omega) am fe hn tn (nm_b32 am ha) (nm_b32 fe hf) (by rw [← hx]; exact nm_w 2 hn 65536 rfl (by omega)) (by rw [← hy]; exact nm_w 2 tn 65536 rfl (by omega))
  have hcA : D.cls (ldC (kN p) am fe tk hn tp [.int .i64 tn, .int .i64 0, .str ⟨#[]⟩, d, .int .i64 0, .slice .nil 0 []]) = true := ld_cl _ _ _ _ _ _ _ _ _ _ _ _ hdc rfl
  have hC2 := pur_upl hC (.cons u2 .nil)
  rw [eB] at hE hbl
  refine ⟨c :: r, _, by omega, by omega, hAl, ld_fz _ _ _ _ _ _ _ _ _ _ _ _ hdf rfl, hcA, hXl, ld_fz _ _ _ _ _ _ _ _ _ _ _ _ rfl rfl, ld_cl _ _ _ _ _ _ _ _ _ _ _ _ rfl rfl, ?_, pur_upl hC u1, pur_upl hE u1, ?_, ?_, ?_⟩
  · obtain ⟨t, z, rfl⟩ := hds
    exact ⟨t, z, ldC_tl (k := kN p) (am := am) (fe := fe) (ho := hn) h1 h2 3 _ _ rfl 77 rfl⟩
  · exact Decode_ok c r _ r.length rfl rfl (by omega) hk _ hYl (lay_80 _ hYl) (ld_cl _ _ _ _ _ _ _ _ _ _ _ _ rfl rfl) 0 hg (m_tr_get p) (n_tr p) (one_rep p) rfl rfl _ (by rw [hkc]; exact ldC_kind _ _ _ _ _ _ _) (cut_80 _ hXl) (ld_fz _ _ _ _ _ _ _ _ _ _ _ _ rfl rfl) (ld_cl _ _ _ _ _ _ _ _ _ _ _ _ rfl rfl) hXl (lay_80 _ hXl) 0 hC2 rfl rfl
  · exact pur_upl (sameLoad_self (trL p am fe tk hn tp tn da) h1 h2 ha hf [] (fun k hk => absurd hk List.not_mem_nil) rfl rfl (Nat.zero_le _)) (.cons (u1.at_.2 0 _ _ rfl rfl) (.cons u2 .nil))
  · intro k hlt
    refine cut_err hk (m_tr_get p) (n_tr p) (one_rep p) rfl rfl 133 (by omega) (by omega) (fun j hj => ?_) k (by rw [hbl] at hlt; omega)
    exact tr_get_few p j _ (by omega)
set_option maxHeartbeats 4000000 in
theorem Ldd_me (tk : List UInt8) (hn dn : Nat) (sy : ByteArray) (sl : List UInt8) (hsl : sy.data.toList = sl) (h1 : tk.length = 32) (hh : hn ≤ 65535) (hd : dn ≤ 77) (hs : sl.length ≤ 32) (hz : sl.all (fun c => c != 0) = true) :
    Ldd (ldC 2 0 0 tk hn z32' [.int .i64 0, .int .i64 dn, .str sy, .slice .nil 0 [], .int .i64 0, .slice .nil 0 []]) 0 := by
  have hC := Check_me tk hn dn sy sl hsl (by omega) h1 hh 0 (by rw [decide_eq_true hd, decide_eq_true hs, hz]; rfl)
  have hE := Encode_me tk hn dn sy sl hsl h1 hh hd hs hz
  obtain ⟨x1, x2, hx⟩ : ∃ x1 x2, toB 2 hn = [x1, x2] := by
    have := toB_2 hn
    match toB 2 hn, this with
    | [a, b], _ => exact ⟨a, b, rfl⟩
  obtain ⟨r, hr⟩ : ∃ r, tk ++ (toB 2 hn ++ ([UInt8.ofNat dn] ++ pad sl)) = r := ⟨_, rfl⟩
  have eB : meB tk hn dn sl = 2 :: r := by unfold meB; rw [hr]
  have hrl : r.length = 67 := by rw [← hr]; simp [h1, toB_2, pad_len sl hs]
  have hdc : (UInt8.ofNat dn).toNat = dn := by rw [UInt8.toNat_ofNat']; omega
  have hsy : (⟨sl.toArray⟩ : ByteArray) = sy := by
    rw [← hsl]
  have u : Up (.agg (ldC 2 0 0 tk hn z32' [.int .i64 0, .int .i64 dn, .str sy, .slice .nil 0 [], .int .i64 0, .slice .nil 0 []])) (.agg (meL tk hn dn sy).cells) := .agg_ (ldC_ups (.cons (.refl _) (.cons (.refl _) (.cons (.refl _) (.cons (.nil _) (.cons (.refl _) (.cons (.nil _) .nil)))))))
  have hg := me_get tk x1 x2 (UInt8.ofNat dn) sl r h1 hs (fun c hc => by
    have := List.all_eq_true.1 hz c (List.mem_of_getElem? hc)
    simpa using this) (by rw [← hr, hx]; simp only [List.cons_append, List.nil_append]) hn (by rw [← hx]; exact nm_w 2 hn 65536 rfl (by omega))
  rw [hdc, hsy, ← hrl] at hg
  have hAl := ldC_len (k := 2) (am := 0) (fe := 0) (ho := hn) h1 z32_len [.int .i64 0, .int .i64 dn, .str sy, .slice .nil 0 [], .int .i64 0, .slice .nil 0 []] rfl
  have hYl := ldC_len (k := 0) (am := 0) (fe := 0) (ho := hn) h1 z32_len [.int .i64 0, .int .i64 dn, .str sy, .slice .nil 0 [], .int .i64 0, .slice .nil 0 []] rfl
  have hk : Pur Try.prog 33 [.int .i64 (((2 : UInt8).toNat : Nat) : Int)] (.tup [.raw (.iface 96 (.agg #[])), .bool true]) := kindOf_2
  have hC2 := pur_upl hC (.cons u .nil)
  have hl68 : (2 :: r : List UInt8).length = 68 := by rw [List.length_cons, hrl]
  rw [eB, ← hl68] at hE
  refine ⟨2 :: r, _, by omega, by omega, hAl, ld_fz _ _ _ _ _ _ _ _ _ _ _ _ rfl rfl, ld_cl _ _ _ _ _ _ _ _ _ _ _ _ rfl rfl, hAl, ld_fz _ _ _ _ _ _ _ _ _ _ _ _ rfl rfl, ld_cl _ _ _ _ _ _ _ _ _ _ _ _ rfl rfl, ⟨_, _, ldC_tl (k := 2) (am := 0) (fe := 0) (ho := hn) h1 z32_len 3 _ _ rfl 77 rfl⟩, hC2, pur_upl hE (.cons u .nil), ?_, ?_, ?_⟩
  · exact Decode_ok 2 r _ r.length rfl rfl (by omega) hk _ hYl (lay_80 _ hYl) (ld_cl _ _ _ _ _ _ _ _ _ _ _ _ rfl rfl) 0 hg m_me_get n_me no_rep rfl rfl _ (ldC_kind _ _ _ _ _ _ _) (cut_80 _ hAl) (ld_fz _ _ _ _ _ _ _ _ _ _ _ _ rfl rfl) (ld_cl _ _ _ _ _ _ _ _ _ _ _ _ rfl rfl) hAl (lay_80 _ hAl) 0 hC2 rfl rfl
  · exact pur_upl (sameLoad_self (meL tk hn dn sy) h1 z32_len M_pos M_pos [] (fun k hk => absurd hk List.not_mem_nil) rfl rfl (Nat.zero_le _)) (.cons u (.cons u .nil))
  · intro k hlt
    refine cut_err hk m_me_get n_me no_rep rfl rfl 68 (by omega) (by omega) (fun j hj => ?_) k (by rw [hl68] at hlt; omega)
    have := me_get_not j (bs (r.take j)) (by omega) _ rfl
    rw [if_pos (show j < 67 by omega)] at this
    exact this
set_option maxHeartbeats 4000000 in
theorem Ldd_tu (xn n : Nat) (ks : List (List UInt8)) (hk20 : ∀ k ∈ ks, k.length = 20) (hn : ks.length = n) (hx : xn ≤ 4294967295) (h1 : 1 ≤ n) (h2 : n ≤ 19) :
    Ldd (ldC 4 0 0 z32' 0 z32' [.int .i64 0, .int .i64 0, .str ⟨#[]⟩, .slice .nil 0 [], .int .i64 xn, .slice .frozen n (bs ks.flatten)]) 0 := by
  have hC := Check_tu xn n ks hx 0 (by rw [if_pos (decide_eq_true ⟨h1, h2⟩)])
  have hE := Encode_tu xn n ks hk20 hn hx h1 h2 _ rfl
  obtain ⟨a0, a1, a2, a3, ha⟩ : ∃ a0 a1 a2 a3, toB 4 xn = [a0, a1, a2, a3] := by
    have := toB_len 4 xn
    match toB 4 xn, this with
    | [a, b, c, d], _ => exact ⟨a, b, c, d, rfl⟩
  obtain ⟨r, hr⟩ : ∃ r, toB 4 xn ++ ([UInt8.ofNat n] ++ ks.flatten) = r := ⟨_, rfl⟩
  have eB : tuB xn n ks = 4 :: r := by unfold tuB; rw [hr]
  have hfl : ks.flatten.length = n * 20 := by rw [(keys_at ks hk20).1, hn]
  have hrl : r.length = 5 + 20 * n := by rw [← hr]; simp only [List.length_append, toB_len, hfl, List.length_singleton]; omega
  have hdc : (UInt8.ofNat n).toNat = n := by rw [UInt8.toNat_ofNat']; omega
  have u : Up (.agg (ldC 4 0 0 z32' 0 z32' [.int .i64 0, .int .i64 0, .str ⟨#[]⟩, .slice .nil 0 [], .int .i64 xn, .slice .frozen n (bs ks.flatten)])) (.agg (tuL xn n ks).cells) := .agg_ (ldC_ups (.cons (.refl _) (.cons (.refl _) (.cons (.refl _) (.cons (.nil _) (.cons (.refl _) (.cons (.refl _) .nil)))))))
  have hre : r = a0 :: a1 :: a2 :: a3 :: UInt8.ofNat n :: ks.flatten := by rw [← hr, ha]; rfl
  have hg := tu_get a0 a1 a2 a3 (UInt8.ofNat n) ks hk20 r hre n hn hdc xn (by rw [← ha]; exact nm_w 4 xn 4294967296 rfl (by omega)) _ hrl.symm
  have hAl := ldC_len (k := 4) (am := 0) (fe := 0) (ho := 0) z32_len z32_len [.int .i64 0, .int .i64 0, .str ⟨#[]⟩, .slice .nil 0 [], .int .i64 xn, .slice .frozen n (bs ks.flatten)] rfl
  have hk : Pur Try.prog 33 [.int .i64 (((4 : UInt8).toNat : Nat) : Int)] (.tup [.raw (.iface 97 (.agg #[])), .bool true]) := kindOf_4
  have hC2 := pur_upl hC (.cons u .nil)
  have hl6 : (4 :: r : List UInt8).length = 6 + 20 * n := by rw [List.length_cons, hrl]; omega
  rw [show 6 + 20 * n = (4 :: r : List UInt8).length from hl6.symm, eB] at hE
  refine ⟨4 :: r, _, by omega, by omega, hAl, ld_fz _ _ _ _ _ _ _ _ _ _ _ _ rfl rfl, ld_cl _ _ _ _ _ _ _ _ _ _ _ _ rfl rfl, hAl, ld_fz _ _ _ _ _ _ _ _ _ _ _ _ rfl rfl, ld_cl _ _ _ _ _ _ _ _ _ _ _ _ rfl rfl, ⟨_, _, ldC_tl (k := 4) (am := 0) (fe := 0) (ho := 0) z32_len z32_len 3 _ _ rfl 77 rfl⟩, hC2, pur_upl hE (.cons u .nil), ?_, ?_, ?_⟩
  · exact Decode_ok 4 r _ r.length rfl rfl (by omega) hk _ (tuC_len _ _) (tuC_lay _ _) (ld_cl _ _ _ _ _ _ _ _ _ _ _ _ rfl rfl) 0 hg m_tu_get n_tu no_rep rfl rfl _ (ldC_kind _ _ _ _ _ _ _) (cut_80 _ hAl) (ld_fz _ _ _ _ _ _ _ _ _ _ _ _ rfl rfl) (ld_cl _ _ _ _ _ _ _ _ _ _ _ _ rfl rfl) hAl (lay_80 _ hAl) 0 hC2 rfl rfl
  · exact pur_upl (sameLoad_self (tuL xn n ks) z32_len z32_len M_pos M_pos ks hk20 hn rfl (by show n ≤ 255; omega)) (.cons u (.cons u .nil))
  · intro k hlt
    refine cut_err hk m_tu_get n_tu no_rep rfl rfl (6 + 20 * n) (by omega) (by omega) (fun j hj => ?_) k (by omega)
    by_cases h5 : j < 5
    · exact tu_get_few j _ h5
    · obtain ⟨i, rfl⟩ : ∃ i, j = i + 5 := ⟨j - 5, by omega⟩
      have hl : (r.take (i + 5)).length = i + 5 := by rw [List.length_take]; omega
      refine tu_get_short a0 a1 a2 a3 (UInt8.ofNat n) (ks.flatten.take i) (r.take (i + 5)) (by rw [hre]; rfl) _ hl (by rw [hdc]; omega)
end Go.Proofs.Ytbpaimfnfigjpaa
