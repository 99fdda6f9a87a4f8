/- Who signs in another one's place: what each signature tells, and the lists of four. Plain law. Conditions: a small curve; its points' table. -/
import Derived.Test.YtpdhbddkcnffbaaDoorQrm2
namespace Go.Proofs.YtpdhbddkcnffbaaDoor
open Go.RowKit Go.Lib
set_option linter.unusedVariables false
set_option linter.unusedVariables false
set_option maxRecDepth 100000

namespace quo
theorem eqm_a (n r d z : Nat) : GM.Eqm n ((r : Int) * d) ((r : Int) * d + z - (z : Nat)) := ⟨0, by grind⟩
theorem eqm_c {n r jr d z va : Nat} (hva : va < n) (ej : GM.Eqm n ((jr : Int) * r) 1) : GM.Eqm n ((r : Int) * ((d + jr * (z + (n - va)) : Nat) : Int)) ((r : Int) * d + (z : Nat) - (va : Nat)) := by
  have e1 := ej.mul (GM.Eqm.refl ((z : Int) + (n - va)))
  refine GM.Eqm.trans (b := (r : Int) * d + (jr : Int) * r * ((z : Int) + (n - va))) ⟨0, by push_cast; rw [Int.ofNat_sub (by omega)]; grind⟩ ?_
  refine ((GM.Eqm.refl _).add e1).trans ⟨1, by grind⟩
section
variable {p b n gx gy : Nat} {T : Nat → P3}
theorem EOk_of {x y : Nat} {f : Bool} {l : List UInt8} {K : List (List UInt8)} {w r s : Nat} {o : Int} {k Z : List UInt8} {g : Bool} (hk : K[w]? = some k) (hZ : keyN x y = Z) (hg : g = decide (Z = k)) (R : Pur Tryd.prog 19 [.agg (cv p 0 b n gx gy false), .agg (bs l), .agg (sg r s o)] (.tup [.agg (pt x y f), .int .i64 0])) : EOk p b n gx gy l K ⟨w, r, s, o, g⟩ := by
  subst hZ
  refine ⟨k, hk, .inr ⟨x, y, f, R, hg⟩⟩
theorem EOk_no {l : List UInt8} {K : List (List UInt8)} {w r s : Nat} {o : Int} {k : List UInt8} (hk : K[w]? = some k) (R : Pur Tryd.prog 19 [.agg (cv p 0 b n gx gy false), .agg (bs l), .agg (sg r s o)] (.tup [.agg (pt 0 0 false), .int .i64 10])) : EOk p b n gx gy l K ⟨w, r, s, o, false⟩ := ⟨k, hk, .inl ⟨rfl, R⟩⟩
theorem ptD_pt (q : P3) : ptD q = pt q.1 q.2.1 q.2.2 := rfl
set_option maxHeartbeats 1000000 in
/-- what each one's signature tells of any sum -/
theorem tell_ok (G : Grp p b n gx gy T) (E : Extra p b n T) (hn : n < 1000) (hp : p < 1000) {d z r s i x y : Nat} {o : Int} (h : SigOk n p d z T r s o i x y) (hd : d % n ≠ 0) (l : List UInt8) (hl : l.length = 32) (K : List (List UInt8)) (w : Nat) (k : List UInt8) (hk : K[w]? = some k) :
    ∃ g : Bool, EOk p b n gx gy l K ⟨w, r, s, o, g⟩ ∧ (nm l % n = z → g = decide (keyN (T d).1 (T d).2.1 = k)) := by
  obtain ⟨jr, hjr, hj1, _⟩ := E.inv r h.rn h.r0
  have ej := eqm1 hj1
  have hn0 : 0 < n := Nat.lt_of_le_of_lt (Nat.zero_le _) h.rn
  have hv : nm l % n < n := Nat.mod_lt _ hn0
  by_cases heq : nm l % n = z
  · have hm := eqm_a n r d z
    have hm2 : GM.Eqm n ((r : Int) * d) ((r : Int) * d + z - (nm l % n : Nat)) := by rw [heq]; exact hm
    have R := (rec_sig G E hn hp h l hl hm2).1 hd
    rw [ptD_pt] at R
    generalize hZ : keyN (T d).1 (T d).2.1 = Z at *
    exact ⟨_, EOk_of hk hZ rfl R, fun _ => rfl⟩
  · have hm := eqm_c (d := d) (z := z) hv ej
    generalize d + jr * (z + (n - nm l % n)) = m at *
    have R := rec_sig G E hn hp h l hl hm
    by_cases h0 : m % n = 0
    · exact ⟨false, EOk_no hk (R.2 h0), fun h1 => absurd h1 heq⟩
    · have R1 := R.1 h0
      rw [ptD_pt] at R1
      exact ⟨_, EOk_of hk rfl rfl R1, fun h1 => absurd h1 heq⟩
end

/-- the signatures of four, with what is said of each -/
def four (sr ss so : Nat → Nat) (g : Nat → Bool) : List QE := (List.range 4).map fun i => ⟨i, sr i, ss i, so i, g i⟩
/-- with one of them swapped for another -/
def swp (sr ss so : Nat → Nat) (i i1 : Nat) (g : Bool) : List QE := (List.range 4).map fun j => if j = i then ⟨j, sr i1, ss i1, so i1, g⟩ else ⟨j, sr j, ss j, so j, true⟩
theorem sgnd15 (sr ss so : Nat → Nat) : sgnd sr ss so 15 4 = four sr ss so fun _ => true := rfl
theorem four_cells (sr ss so : Nat → Nat) (g h : Nat → Bool) : esC (four sr ss so g) = esC (four sr ss so h) := rfl
def allg (g : Nat → Bool) : Nat → Bool
  | 0 => true
  | k + 1 => allg g k && g k
theorem four_chk (sr ss so : Nat → Nat) (g : Nat → Bool) : chkR (-1) (four sr ss so g) = if allg g 4 then 0 else 10 := by
  show (if ((0 : Nat) : Int) ≤ -1 then 3 else if g 0 then (if ((1 : Nat) : Int) ≤ (0 : Nat) then 3 else if g 1 then (if ((2 : Nat) : Int) ≤ (1 : Nat) then 3 else if g 2 then (if ((3 : Nat) : Int) ≤ (2 : Nat) then 3 else if g 3 then 0 else 10) else 10) else 10) else 10) = if (((true && g 0) && g 1) && g 2) && g 3 then 0 else 10
  cases g 0 <;> cases g 1 <;> cases g 2 <;> cases g 3 <;> rfl
theorem swp_chk (sr ss so : Nat → Nat) (i i1 : Nat) (hi : i < 4) (g : Bool) : chkR (-1) (swp sr ss so i i1 g) = if g then 0 else 10 := by
  match i, hi with
  | 0, _ => cases g <;> rfl
  | 1, _ => cases g <;> rfl
  | 2, _ => cases g <;> rfl
  | 3, _ => cases g <;> rfl
theorem four_at (sr ss so : Nat → Nat) (g : Nat → Bool) (j : Nat) (hj : j < 4) : (four sr ss so g)[j]? = some ⟨j, sr j, ss j, so j, g j⟩ := by
  match j, hj with
  | 0, _ => rfl
  | 1, _ => rfl
  | 2, _ => rfl
  | 3, _ => rfl
theorem four_sub (sr ss so : Nat → Nat) (g : Nat → Bool) (j : Nat) (hj : j < 4) : ∀ ze, cut ⟨true, 9, ze⟩ 0 (((esC (four sr ss so g)).drop ((j : Int).toNat * 10)).drop 1) = some (.agg (sg (sr j) (ss j) (so j))) := by
  intro ze
  match j, hj with
  | 0, _ => rfl
  | 1, _ => rfl
  | 2, _ => rfl
  | 3, _ => rfl
theorem four_ble (sr ss so : Nat → Nat) (g : Nat → Bool) (j : Nat) (hj : j < 4) : Nat.ble 1 ((esC (four sr ss so g)).drop ((j : Int).toNat * 10)).length = true := by
  match j, hj with
  | 0, _ => rfl
  | 1, _ => rfl
  | 2, _ => rfl
  | 3, _ => rfl
theorem swp_put (sr ss so : Nat → Nat) (g : Nat → Bool) (i i1 : Nat) (hi : i < 4) (c : Bool) : splice ((i : Int).toNat * 10 + 1) (D.agg (sg (sr i1) (ss i1) (so i1))).cells (esC (four sr ss so g)) = some (esC (swp sr ss so i i1 c)) := by
  match i, hi with
  | 0, _ => rfl
  | 1, _ => rfl
  | 2, _ => rfl
  | 3, _ => rfl
theorem swp_cls (sr ss so : Nat → Nat) (i i1 : Nat) (hi : i < 4) (c : Bool) : D.cls (esC (swp sr ss so i i1 c)) = true := by
  match i, hi with
  | 0, _ => rfl
  | 1, _ => rfl
  | 2, _ => rfl
  | 3, _ => rfl
theorem fzf (cs z : List D) (l : List UInt8) (a u : Int) (m n : Nat) (kz : List D) (hc : D.fzs cs = cs) : D.fzs [.agg cs, .agg [.int .i64 a, .slice .frozen m kz, .int .i64 u], .agg (bs l), .slice .frozen n z] = [.agg cs, .agg [.int .i64 a, .slice .frozen m kz, .int .i64 u], .agg (bs l), .slice .frozen n z] := by
  show [D.agg (D.fzs cs), _, D.agg (D.fzs (bs l)), _] = _
  rw [bs_fzs, hc]; rfl
theorem clq (cs z : List D) (l : List UInt8) (a u : Int) (m n : Nat) (kz : List D) (hc : D.cls cs = true) : D.cls [.agg cs, .agg [.int .i64 a, .slice .frozen m kz, .int .i64 u], .agg (bs l), .slice .frozen n z] = true := by
  show (D.cls cs && (true && (D.cls (bs l) && true))) = true
  rw [bs_cl, hc]; rfl
theorem fzs4 (cs z : List D) (l : List UInt8) (k : Nat) (m : Int) (hc : D.fzs cs = cs) : D.fzs [.agg cs, .slice .frozen k z, .int .i64 m, .agg (bs l)] = [.agg cs, .slice .frozen k z, .int .i64 m, .agg (bs l)] := by
  show [D.agg (D.fzs cs), _, _, D.agg (D.fzs (bs l))] = _
  rw [bs_fzs, hc]; rfl
theorem cls4 (cs z : List D) (l : List UInt8) (k : Nat) (m : Int) (hc : D.cls cs = true) : D.cls [.agg cs, .slice .frozen k z, .int .i64 m, .agg (bs l)] = true := by
  show (D.cls cs && (true && (true && (D.cls (bs l) && true)))) = true
  rw [bs_cl, hc]; rfl
end quo
end Go.Proofs.YtpdhbddkcnffbaaDoor
