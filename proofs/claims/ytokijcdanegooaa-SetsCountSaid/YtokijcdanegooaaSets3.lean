/- sets that follow one another: what turned makes. No conditions but bounds. -/
import Derived.Test.YtokijcdanegooaaSets2
import Derived.Test.YtokijcdanegooaaSome
namespace Go.Proofs.Ytokijcdanegooaa
open Go.RowKit Go.Lib Go.IntWalk
set_option linter.unusedVariables false
set_option maxRecDepth 100000

theorem natmod (a : Int) (m : Nat) (h : 0 < m) : ∃ q : Nat, a % (m : Int) = q ∧ q < m := by
  have h0 := Int.emod_nonneg a (show (m : Int) ≠ 0 by omega)
  have h1 := Int.emod_lt_of_pos a (show (0 : Int) < m by omega)
  exact ⟨(a % (m : Int)).toNat, by omega, by omega⟩
theorem u8_is (x : Int) : ∃ c : UInt8, IntKind.u8.wrap x = ((c.toNat : Nat) : Int) := by
  have h : 0 ≤ IntKind.u8.wrap x ∧ IntKind.u8.wrap x < 256 := by rw [IntKind.wrap_u8]; omega
  refine ⟨UInt8.ofNat (IntKind.u8.wrap x).toNat, ?_⟩
  rw [UInt8.toNat_ofNat']; omega
/-- the key of a number -/
def kk (c : UInt8) : List UInt8 := c :: List.replicate 19 0
def k2 (c : UInt8) : List UInt8 := c :: 1 :: List.replicate 18 0
theorem kk_len (c : UInt8) : (kk c).length = 20 := rfl
theorem k2_len (c : UInt8) : (k2 c).length = 20 := rfl
theorem k2_ne (a b : UInt8) : k2 b ≠ kk a := by
  intro h
  have h1 := congrArg (·[1]?) h
  exact absurd h1 (by show ¬ (some (1 : UInt8) = some 0); decide)
theorem kb_nat (n : Nat) (h : n < 256) : (UInt8.ofNat n).toNat = n := by
  rw [UInt8.toNat_ofNat']; omega
/-- sets, the last one by itself, and the hours at which they turned -/
structure HisT where
  p : List SeT
  s : SeT
  ts : List Nat
  now : Nat
def his0 : HisT := ⟨[], ⟨0, 1, bs (kk 1), 0⟩, [], 1⟩
def hisN (h : HisT) (a : Nat) (c : UInt8) : HisT :=
  ⟨h.p ++ [⟨h.s.i, h.s.n, h.s.z, h.now + a + 24⟩], ⟨h.ts.length + 1, 2, bs (kk (UInt8.ofNat (h.ts.length + 2))) ++ bs (k2 c), 0⟩, h.ts ++ [h.now + a], h.now + a⟩
structure HisT.good (h : HisT) : Prop where
  pl : h.p.length = h.ts.length
  sets : Sets (h.p ++ [h.s])
  u : ∀ (i : Nat) (t : SeT) (x : Nat), h.p[i]? = some t → h.ts[i]? = some x → t.u = x + 24
  su : h.s.u = 0
  le : ∀ (i x : Nat), h.ts[i]? = some x → x ≤ h.now
  now : 1 ≤ h.now ∧ h.now ≤ 1 + 40 * h.ts.length
  keys : ∀ (i : Nat) (t : SeT), (h.p ++ [h.s])[i]? = some t → 0 < t.n ∧ ∃ r, t.z = bs (kk (UInt8.ofNat (i + 1))) ++ r
theorem his0_good : his0.good := by
  refine ⟨rfl, ⟨⟨by decide, by decide⟩, fun j s hs => ?_, fun j s t hs ht => ?_⟩, fun i t x ht => ?_, rfl, fun i x hx => ?_, ⟨by decide, by decide⟩, fun i t ht => ?_⟩
  · match j, hs with
    | 0, hs =>
      cases hs
      exact ⟨rfl, ⟨keys_one (kk 1) rfl, rfl, by decide⟩, by decide, by decide⟩
  · match j, ht with
    | 0, ht => cases ht
  · cases ht
  · cases hx
  · match i, ht with
    | 0, ht =>
      cases ht
      exact ⟨by decide, [], by rw [List.append_nil]; rfl⟩
theorem hisN_good (h : HisT) (hg : h.good) (a : Nat) (ha : a < 40) (c : UInt8) (h6 : h.ts.length ≤ 6) : (hisN h a c).good := by
  have hpl := hg.pl
  have hlen : (h.p ++ [h.s]).length = h.ts.length + 1 := by simp [hpl]
  have hnow := hg.now
  have hat := hg.sets.at_
  have hord := hg.sets.ord
  rw [hlen] at hat
  have gp : ∀ (i : Nat) (t : SeT), i < h.p.length → h.p[i]? = some t → (h.p ++ [h.s])[i]? = some t := fun i t hi ht => by rw [List.getElem?_append_left hi]; exact ht
  have gs : (h.p ++ [h.s])[h.p.length]? = some h.s := by rw [List.getElem?_append_right (Nat.le_refl _), Nat.sub_self]; rfl
  -- the new sets, one by one
  have cas : ∀ (i : Nat) (t : SeT), ((hisN h a c).p ++ [(hisN h a c).s])[i]? = some t → (i < h.p.length ∧ h.p[i]? = some t) ∨ (i = h.p.length ∧ t = ⟨h.s.i, h.s.n, h.s.z, h.now + a + 24⟩) ∨ (i = h.p.length + 1 ∧ t = (hisN h a c).s) := fun i t ht => by
    have ht : ((h.p ++ [⟨h.s.i, h.s.n, h.s.z, h.now + a + 24⟩]) ++ [(hisN h a c).s])[i]? = some t := ht
    rcases Nat.lt_trichotomy i h.p.length with hi | hi | hi
    · rw [List.getElem?_append_left (by simp; omega), List.getElem?_append_left hi] at ht
      exact .inl ⟨hi, ht⟩
    · subst hi
      rw [List.getElem?_append_left (by simp), List.getElem?_append_right (Nat.le_refl _), Nat.sub_self] at ht
      exact .inr (.inl ⟨rfl, (Option.some.inj ht).symm⟩)
    · have hi2 : i < h.p.length + 2 := by
        have := (List.getElem?_eq_some_iff.1 ht).1
        simp at this; omega
      have e : i = h.p.length + 1 := by omega
      subst e
      rw [List.getElem?_append_right (by simp)] at ht
      simp at ht
      exact .inr (.inr ⟨rfl, ht.symm⟩)
  have hnl : ((hisN h a c).p ++ [(hisN h a c).s]).length = h.ts.length + 2 := by simp [hisN, hpl]
  have tsx : ∀ i, i < h.p.length → ∃ x, h.ts[i]? = some x := fun i hi => ⟨_, List.getElem?_eq_getElem (by omega)⟩
  refine ⟨by simp [hisN, hpl], ⟨⟨by rw [hnl]; omega, by rw [hnl]; omega⟩, fun i t ht => ?_, fun i s t hs ht => ?_⟩, fun i t x ht hx => ?_, rfl, fun i x hx => ?_, ?_, fun i t ht => ?_⟩
  · rw [hnl]
    rcases cas i t ht with ⟨hi, h1⟩ | ⟨rfl, rfl⟩ | ⟨rfl, rfl⟩
    · obtain ⟨a1, a2, a3, a4⟩ := hat i t (gp i t hi h1)
      refine ⟨a1, a2, a3, ?_⟩
      have : t.u ≠ 0 := fun e => by have := a4.1 e; omega
      constructor
      · intro e; exact absurd e this
      · intro e; omega
    · obtain ⟨a1, a2, a3, a4⟩ := hat _ _ gs
      refine ⟨a1, ⟨a2.k, a2.z, a2.n⟩, by show h.now + a + 24 ≤ _; omega, ?_⟩
      constructor
      · intro e; exact absurd e (by show h.now + a + 24 ≠ 0; omega)
      · intro e; omega
    · refine ⟨by show h.ts.length + 1 = _; omega, ⟨keys_two _ _ (kk_len _) (k2_len _) (k2_ne _ _), by show 2 * 20 = (bs _ ++ bs _).length; rw [List.length_append, bs_len, bs_len, kk_len, k2_len], by show 2 ≤ 19; decide⟩, by show 0 ≤ _; omega, ?_⟩
      constructor
      · intro _; omega
      · intro _; rfl
  · rcases cas (i + 1) t ht with ⟨hi, h1⟩ | ⟨hi, rfl⟩ | ⟨hi, rfl⟩
    · rcases cas i s hs with ⟨hj, h2⟩ | ⟨hj, _⟩ | ⟨hj, _⟩
      · exact hord i s t (gp i s hj h2) (gp (i + 1) t hi h1)
      · omega
      · omega
    · rcases cas i s hs with ⟨hj, h2⟩ | ⟨hj, _⟩ | ⟨hj, _⟩
      · obtain ⟨x, hx⟩ := tsx i hj
        have h3 := hg.u i s x h2 hx
        have h4 := hg.le i x hx
        exact .inr (by show s.u ≤ h.now + a + 24; omega)
      · omega
      · omega
    · exact .inl rfl
  · have ht : (h.p ++ [⟨h.s.i, h.s.n, h.s.z, h.now + a + 24⟩])[i]? = some t := ht
    have hx : (h.ts ++ [h.now + a])[i]? = some x := hx
    rcases Nat.lt_or_ge i h.p.length with hi | hi
    · rw [List.getElem?_append_left hi] at ht
      rw [List.getElem?_append_left (by omega)] at hx
      exact hg.u i t x ht hx
    · rw [List.getElem?_append_right hi] at ht
      rw [List.getElem?_append_right (by omega), ← hpl] at hx
      have h0 : i - h.p.length = 0 := by
        have := (List.getElem?_eq_some_iff.1 ht).1
        simp at this; omega
      rw [h0] at ht hx
      have e1 := Option.some.inj ht
      have e2 := Option.some.inj hx
      rw [← e1, ← e2]
  · have hx : (h.ts ++ [h.now + a])[i]? = some x := hx
    show x ≤ h.now + a
    rcases Nat.lt_or_ge i h.ts.length with hi | hi
    · rw [List.getElem?_append_left hi] at hx
      have := hg.le i x hx; omega
    · rw [List.getElem?_append_right hi] at hx
      have h0 : i - h.ts.length = 0 := by
        have := (List.getElem?_eq_some_iff.1 hx).1
        simp at this; omega
      rw [h0] at hx
      have e2 : h.now + a = x := Option.some.inj hx
      omega
  · show 1 ≤ h.now + a ∧ h.now + a ≤ 1 + 40 * (h.ts ++ [h.now + a]).length
    rw [List.length_append]
    show _ ∧ h.now + a ≤ 1 + 40 * (h.ts.length + 1)
    omega
  · rcases cas i t ht with ⟨hi, h1⟩ | ⟨rfl, rfl⟩ | ⟨rfl, rfl⟩
    · exact hg.keys i t (gp i t hi h1)
    · have := hg.keys _ _ gs
      exact this
    · refine ⟨by show 0 < 2; decide, bs (k2 c), ?_⟩
      show bs (kk (UInt8.ofNat (h.ts.length + 2))) ++ bs (k2 c) = _
      rw [hpl]
def hisS (h : HisT) (r : RawT) : HisT := hisN h (r.a % 40).toNat (UInt8.ofNat (IntKind.u8.wrap r.b).toNat)
def his (l : List RawT) : HisT := l.foldl hisS his0
theorem his_snoc (l : List RawT) (r : RawT) : his (l ++ [r]) = hisS (his l) r := by simp [his, List.foldl_append]
theorem his_good : ∀ (n : Nat) (l : List RawT), l.length = n → n ≤ 7 → (his l).good ∧ (his l).ts.length = n
  | 0, l, hl, _ => by
    rw [List.eq_nil_of_length_eq_zero hl]
    exact ⟨his0_good, rfl⟩
  | n + 1, l, hl, h7 => by
    obtain ⟨q, r, rfl⟩ : ∃ q r, l = q ++ [r] := ⟨l.dropLast, l.getLast (by intro h; rw [h] at hl; cases hl), (List.dropLast_concat_getLast _).symm⟩
    obtain ⟨hg, hq⟩ := his_good n q (by simpa using hl) (by omega)
    rw [his_snoc]
    have hm := Int.emod_lt_of_pos r.a (show (0 : Int) < 40 by decide)
    refine ⟨hisN_good _ hg _ (by omega) _ (by omega), ?_⟩
    show ((his q).ts ++ [_]).length = n + 1
    rw [List.length_append, hq]; rfl
/-- hours, as data -/
def ats (l : List Nat) : List D := l.map fun (t : Nat) => D.int .i64 (t : Int)
theorem ats_len (l : List Nat) : (ats l).length = l.length := by simp [ats]
set_option maxHeartbeats 16000000 in
theorem turned_ok (l : List RawT) (h : HisT) (hh : his (l.take 7) = h) (n : Nat) (hn : (l.take 7).length = n) : Pur Try.prog 13 [.slice .frozen l.length (rws l)] (.tup [.slice .frozen (n + 1) (ssC (h.p ++ [h.s])), .slice .frozen n (ats h.ts), .bool true]) := by
  have sm := some_ok l 7 (by decide)
  have be := Begin_ok 1 (bs (kk 1)) (keys_one (kk 1) rfl) rfl (by decide)
  have n7 : n ≤ 7 := by rw [← hn, List.length_take]; omega
  have hcut := rws_cut (l.take 7)
  have hzl := rws_len (l.take 7)
  rw [hn] at sm hzl
  generalize l.take 7 = q at *
  generalize rws q = zq at *
  generalize l.length = L at *
  generalize rws l = zl at *
  refine pur_intro Try.func13 rfl Try.ntmps13 rfl (by first | rfl | assumption | exact bs_cl _) fun B => ?_
  repeat (first | with_reducible (first | refine W_seq ?_ | refine q_then ?_ | refine q_thenr ?_ | refine q_thenx ?_ | refine W_block ?_ | refine q_block ?_ | refine q_blockr ?_ | refine q_blockx ?_ | refine W_ret ?_ | refine W_skip ?_ | refine W_label ?_ | refine W_exit ?_ | refine W_scope ?_ | refine q_scope ?_ | refine q_scoper ?_ | refine q_scopex ?_) | (with_reducible refine R_nil ?_; try dsimp only [slots0, slots_ud, cells_U, agg_ud, drop0, dropS, takeS, take0, ud_nil, take_ud, take_ud0, drop_ud, drop_ud0, take_udk, D.cells, D.fz, D.fzs, List.take_succ_cons, List.take_zero, List.drop_succ_cons, List.drop_zero, List.cons_append, List.nil_append, List.append_eq, List.length_cons, List.length_nil, Nat.reduceAdd, Nat.reduceMul, Nat.reduceSub, Int.reduceAdd, Int.reduceSub, Int.reduceToNat, Int.reduceNeg, Int.reduceMul]) | refine q_blocky rfl ?_ | refine W_plain rfl ?_ | refine W_drawn mixed rfl ?_ | refine and_chk (by kernel_rfl) ?_ | refine k_move rfl rfl ?_ | refine k_assign rfl rfl ?_ | refine k_load rfl rfl rfl rfl ?_ | refine k_alloc rfl ?_ | refine k_store rfl rfl rfl rfl rfl rfl rfl ?_ | refine k_extract rfl rfl rfl ?_ | refine k_fieldAddr rfl rfl rfl ?_ | refine k_build rfl rfl rfl ?_ | refine k_call rfl be rfl rfl rfl rfl ?_ | refine k_call rfl sm rfl rfl rfl rfl ?_ | refine k_append rfl rfl rfl (by first | rfl | exact trivial | (show 0 < _; omega)) (by first | rfl | (simp <;> omega)) (by first | rfl | (simp <;> omega)) rfl (by omega) rfl rfl rfl ?_ | refine k_slice rfl rfl rfl rfl ⟨by omega, by omega, by omega⟩ rfl rfl rfl ?_ | refine k_slice3 rfl rfl rfl rfl rfl ⟨by omega, by omega, by omega⟩ rfl rfl rfl ?_ | refine k_sliceA rfl rfl rfl rfl ⟨by omega, by omega, by omega, by omega⟩ rfl rfl ?_ | refine k_sliceE rfl rfl rfl rfl ⟨by omega, by omega, by omega, by omega⟩ rfl rfl rfl rfl ?_ | refine k_buildSlice (cs := []) rfl rfl rfl rfl rfl rfl rfl ?_ | refine k_buildSlice rfl rfl rfl rfl rfl rfl rfl ?_ | refine k_indexAddr rfl rfl rfl ⟨by omega, by omega⟩ ?_ | refine k_indexAddrs rfl rfl rfl ⟨by omega, by omega⟩ rfl ?_ | refine k_loade rfl rfl rfl ?_ | refine k_fieldAddre rfl rfl rfl rfl ?_ | refine k_len rfl rfl ?_ | refine k_pickT rfl rfl rfl ?_ | refine k_pickF rfl rfl rfl ?_ | refine k_addi rfl rfl rfl (by omega) ?_ | refine k_lssT rfl rfl rfl (by omega) ?_ | refine k_lssF rfl rfl rfl (by omega) ?_ | refine k_eqlT rfl rfl rfl (by omega) ?_ | refine k_eqlF rfl rfl rfl (by omega) ?_ | refine k_neqT rfl rfl rfl (by omega) ?_ | refine k_neqF rfl rfl rfl (by omega) ?_ | refine k_eqa rfl rfl rfl rfl rfl rfl ?_ | refine k_nea rfl rfl rfl rfl rfl rfl ?_ | refine k_skip rfl ?_ | refine k_skip0 rfl ?_ | refine k_pick rfl rfl rfl rfl rfl ?_ | refine W_yes rfl ?_ | refine W_no rfl ?_)
  refine W_of_weak (weak_tok 3 1) ?_
  refine W_loopW (fun n' ρ m nx => ∃ (j : Nat) (h : HisT) (zs za : List D), j ≤ n ∧ h = his (q.take j) ∧ zs = ssC (h.p ++ [h.s]) ∧ za = ats h.ts ∧ n' = n - j ∧ ρ = [(22, .int .i64 (j : Int)), (21, .int .i64 (n : Int)), (20, .slice .frozen n zq), (8, .slice (.own 0) j za), (7, .int .i64 (h.now : Int)), (6, .int .i64 0), (5, .slice .frozen (j + 1) zs)] ∧ m = [(0, some (.tok 3 1))] ∧ nx = 1)
    ⟨_, _, _, _, (weak_ren (fun l => if l = 0 then 1 else l) (by repeat (first | exact trivial | refine ⟨⟨_, rfl, (by first | exact Up.refl _ | exact Up.fz _ _ _ | exact Up.nil _ | exact Up.nrs _ | assumption), rfl⟩, ?_⟩)) (by repeat (first | exact trivial | refine ⟨⟨rfl, _, rfl, (by first | exact Ups.refl _ | assumption | ((repeat refine Ups.cons (by first | exact Up.refl _ | exact Up.nil _ | exact Up.fz _ _ _) ?_); exact Ups.nil)), rfl⟩, ?_⟩ | refine ⟨⟨rfl, rfl⟩, ?_⟩ | refine ⟨⟨rfl, _, rfl, bs_ups _ _, bs_lalls _ _⟩, ?_⟩ | refine ⟨⟨rfl, _, rfl, cls_ups _ _ (by assumption), cls_lalls _ _ (by assumption)⟩, ?_⟩)) (by first | decide | simp) (Nat.zero_le _) (fun _ h => absurd h (Nat.not_lt_zero _))), 0, his0, _, _, Nat.zero_le _, rfl, rfl, rfl, rfl, rfl, rfl, rfl⟩ ?_
  rintro n' ρ m nx ⟨j, g, zs, za, hj, hg0, hzs, hza, rfl, rfl, rfl, rfl⟩
  obtain ⟨hg, hgl⟩ := his_good j (q.take j) (by rw [List.length_take]; omega) (by omega)
  rw [← hg0] at hg hgl
  by_cases hlt : j < n
  · obtain ⟨r, hr⟩ : ∃ r, q[j]? = some r := ⟨_, List.getElem?_eq_getElem (by omega)⟩
    have hc := hcut j r hr
    have hnext : his (q.take (j + 1)) = hisS g r := by rw [List.take_add_one, hr, hg0]; exact his_snoc _ _
    obtain ⟨A, hA⟩ : ∃ A, (r.a % 40).toNat = A := ⟨_, rfl⟩
    obtain ⟨C, hC⟩ : ∃ C, UInt8.ofNat (IntKind.u8.wrap r.b).toNat = C := ⟨_, rfl⟩
    unfold hisS at hnext
    rw [hA, hC] at hnext
    have hAm : r.a % 40 = (A : Int) := by
      have := Int.emod_nonneg r.a (show (40 : Int) ≠ 0 by decide)
      omega
    have hA40 : A < 40 := by
      have := Int.emod_lt_of_pos r.a (show (0 : Int) < 40 by decide)
      omega
    have e2 : IntKind.u8.wrap r.b = ((C.toNat : Nat) : Int) := by
      rw [← hC, UInt8.toNat_ofNat']
      have : 0 ≤ IntKind.u8.wrap r.b ∧ IntKind.u8.wrap r.b < 256 := by rw [IntKind.wrap_u8]; omega
      omega
    have pk := p_picked r.a 40 A (by decide) (by decide) hAm
    have hnow := hg.now
    have hpl := hg.pl
    rw [hgl] at hnow hpl
    obtain ⟨c1, hc1⟩ : ∃ c, UInt8.ofNat (j + 2) = c := ⟨_, rfl⟩
    have e1 : IntKind.u8.wrap ((j : Int) + 2) = ((c1.toNat : Nat) : Int) := by
      rw [← hc1, kb_nat _ (by omega), IntKind.wrap_u8]; omega
    obtain ⟨now2, hn2⟩ : ∃ x, g.now + A = x := ⟨_, rfl⟩
    have e3 : IntKind.i64.wrap ((g.now : Int) + (A : Int)) = ((now2 : Nat) : Int) := by rw [i64_in _ (by omega)]; omega
    have tk := Turn_ok g.p g.s hg.sets (j + 1) (by rw [hpl]) (by omega) 2 (bs (kk c1) ++ bs (k2 C)) (keys_two _ _ (kk_len _) (k2_len _) (k2_ne _ _)) (by rw [List.length_append, bs_len, bs_len, kk_len, k2_len]) (by decide) now2 (by omega) (by omega) (fun t ht h1 => by
      have hi : j + 1 - 2 < g.p.length := by omega
      rw [List.getElem?_append_left hi] at ht
      obtain ⟨x, hx⟩ : ∃ x, g.ts[j + 1 - 2]? = some x := ⟨_, List.getElem?_eq_getElem (by omega)⟩
      have h3 := hg.u _ t x ht hx
      have h4 := hg.le _ x hx
      omega) (now2 + 24) rfl
    have hz2 : za ++ [.int .i64 (now2 : Int)] = ats (hisN g A C).ts := by
      show _ = ats (g.ts ++ [g.now + A])
      rw [hza, hn2]; simp [ats]
    have hs2 : ssC (g.p ++ [⟨g.s.i, g.s.n, g.s.z, now2 + 24⟩, ⟨j + 1, 2, bs (kk c1) ++ bs (k2 C), 0⟩]) = ssC ((hisN g A C).p ++ [(hisN g A C).s]) := by
      show _ = ssC ((g.p ++ [⟨g.s.i, g.s.n, g.s.z, g.now + A + 24⟩]) ++ [⟨g.ts.length + 1, 2, bs (kk (UInt8.ofNat (g.ts.length + 2))) ++ bs (k2 C), 0⟩])
      rw [hgl, hc1, hn2, List.append_assoc]; rfl
    rw [hs2, ← hzs] at tk
    have hzal : j * 1 = za.length := by rw [hza, ats_len, hgl]; omega
    have hnw2 : ((hisN g A C).now : Int) = (now2 : Int) := by show ((g.now + A : Nat) : Int) = _; rw [hn2]
    obtain ⟨k', a', b', s'⟩ := r
    have hc : ∀ ze, cut ⟨true, 4, ze⟩ 0 (zq.drop ((j : Int).toNat * 4)) = some (.agg [.int .i64 k', .int .i64 a', .int .i64 b', .str s']) := hc
    dsimp only at e2 pk
    generalize hzs2 : ssC ((hisN g A C).p ++ [(hisN g A C).s]) = zs2 at *
    generalize hza2 : ats (hisN g A C).ts = za2 at *
    generalize (g.now : Int) = gn at *
    clear hg hcut hnow hs2 hA hC
    repeat (first | with_reducible (first | refine W_seq ?_ | refine q_then ?_ | refine q_thenr ?_ | refine q_thenx ?_ | refine W_block ?_ | refine q_block ?_ | refine q_blockr ?_ | refine q_blockx ?_ | refine W_ret ?_ | refine W_skip ?_ | refine W_label ?_ | refine W_exit ?_ | refine W_scope ?_ | refine q_scope ?_ | refine q_scoper ?_ | refine q_scopex ?_) | (with_reducible refine R_nil ?_; try dsimp only [slots0, slots_ud, cells_U, agg_ud, drop0, dropS, takeS, take0, ud_nil, take_ud, take_ud0, drop_ud, drop_ud0, take_udk, D.cells, D.fz, D.fzs, List.take_succ_cons, List.take_zero, List.drop_succ_cons, List.drop_zero, List.cons_append, List.nil_append, List.append_eq, List.length_cons, List.length_nil, Nat.reduceAdd, Nat.reduceMul, Nat.reduceSub, Int.reduceAdd, Int.reduceSub, Int.reduceToNat, Int.reduceNeg, Int.reduceMul]) | refine q_blocky rfl ?_ | refine W_plain rfl ?_ | refine W_drawn mixed rfl ?_ | refine and_chk (by kernel_rfl) ?_ | refine k_indexAddrs rfl rfl rfl ⟨by omega, by omega⟩ (by exact hzl.symm) ?_ | refine k_loade rfl rfl (by with_reducible exact hc _) ?_ | refine k_add rfl rfl rfl (by with_reducible exact e3) ?_ | refine k_append rfl rfl rfl (by rfl) hzal rfl rfl (by omega) rfl rfl hz2 ?_ | refine k_move rfl rfl ?_ | refine k_assign rfl rfl ?_ | refine k_load rfl rfl rfl rfl ?_ | refine k_alloc rfl ?_ | refine k_store rfl rfl rfl rfl rfl rfl rfl ?_ | refine k_extract rfl rfl rfl ?_ | refine k_fieldAddr rfl rfl rfl ?_ | refine k_build rfl rfl rfl ?_ | refine k_call rfl pk rfl rfl rfl rfl ?_ | refine k_conv rfl rfl (by with_reducible exact e1) ?_ | refine k_conv rfl rfl (by with_reducible exact e2) ?_ | refine k_call rfl tk rfl rfl rfl rfl ?_ | refine k_append rfl rfl rfl (by first | rfl | exact trivial | (show 0 < _; omega)) (by first | rfl | (simp <;> omega)) (by first | rfl | (simp <;> omega)) rfl (by omega) rfl rfl rfl ?_ | refine k_slice rfl rfl rfl rfl ⟨by omega, by omega, by omega⟩ rfl rfl rfl ?_ | refine k_slice3 rfl rfl rfl rfl rfl ⟨by omega, by omega, by omega⟩ rfl rfl rfl ?_ | refine k_sliceA rfl rfl rfl rfl ⟨by omega, by omega, by omega, by omega⟩ rfl rfl ?_ | refine k_sliceE rfl rfl rfl rfl ⟨by omega, by omega, by omega, by omega⟩ rfl rfl rfl rfl ?_ | refine k_buildSlice (cs := []) rfl rfl rfl rfl rfl rfl rfl ?_ | refine k_buildSlice rfl rfl rfl rfl rfl rfl rfl ?_ | refine k_indexAddr rfl rfl rfl ⟨by omega, by omega⟩ ?_ | refine k_indexAddrs rfl rfl rfl ⟨by omega, by omega⟩ rfl ?_ | refine k_loade rfl rfl rfl ?_ | refine k_fieldAddre rfl rfl rfl rfl ?_ | refine k_len rfl rfl ?_ | refine k_pickT rfl rfl rfl ?_ | refine k_pickF rfl rfl rfl ?_ | refine k_addi rfl rfl rfl (by omega) ?_ | refine k_lssT rfl rfl rfl (by omega) ?_ | refine k_lssF rfl rfl rfl (by omega) ?_ | refine k_eqlT rfl rfl rfl (by omega) ?_ | refine k_eqlF rfl rfl rfl (by omega) ?_ | refine k_neqT rfl rfl rfl (by omega) ?_ | refine k_neqF rfl rfl rfl (by omega) ?_ | refine k_eqa rfl rfl rfl rfl rfl rfl ?_ | refine k_nea rfl rfl rfl rfl rfl rfl ?_ | refine k_skip rfl ?_ | refine k_skip0 rfl ?_ | refine k_pick rfl rfl rfl rfl rfl ?_ | refine W_yes rfl ?_ | refine W_no rfl ?_)
    subst hn2
    exact ⟨n - (j + 1), _, _, _, (weak_ren (fun l => if l = 0 then 4 else l) (by repeat (first | exact trivial | refine ⟨⟨_, rfl, (by first | exact Up.refl _ | exact Up.fz _ _ _ | exact Up.nil _ | exact Up.nrs _ | assumption), rfl⟩, ?_⟩)) (by repeat (first | exact trivial | refine ⟨⟨rfl, _, rfl, (by first | exact Ups.refl _ | assumption | ((repeat refine Ups.cons (by first | exact Up.refl _ | exact Up.nil _ | exact Up.fz _ _ _) ?_); exact Ups.nil)), rfl⟩, ?_⟩ | refine ⟨⟨rfl, rfl⟩, ?_⟩ | refine ⟨⟨rfl, _, rfl, bs_ups _ _, bs_lalls _ _⟩, ?_⟩ | refine ⟨⟨rfl, _, rfl, cls_ups _ _ (by assumption), cls_lalls _ _ (by assumption)⟩, ?_⟩)) (by first | decide | simp) (Nat.zero_le _) (fun _ h => absurd h (Nat.not_lt_zero _))), by omega, j + 1, hisN g A C, zs2, za2, by omega, hnext.symm, hzs2.symm, hza2.symm, rfl, rfl, rfl, rfl⟩
  · have ej : j = n := by omega
    subst ej
    rw [List.take_of_length_le (by omega), hh] at hg0
    subst hg0
    repeat (first | with_reducible (first | refine W_seq ?_ | refine q_then ?_ | refine q_thenr ?_ | refine q_thenx ?_ | refine W_block ?_ | refine q_block ?_ | refine q_blockr ?_ | refine q_blockx ?_ | refine W_ret ?_ | refine W_skip ?_ | refine W_label ?_ | refine W_exit ?_ | refine W_scope ?_ | refine q_scope ?_ | refine q_scoper ?_ | refine q_scopex ?_) | (with_reducible refine R_nil ?_; try dsimp only [slots0, slots_ud, cells_U, agg_ud, drop0, dropS, takeS, take0, ud_nil, take_ud, take_ud0, drop_ud, drop_ud0, take_udk, D.cells, D.fz, D.fzs, List.take_succ_cons, List.take_zero, List.drop_succ_cons, List.drop_zero, List.cons_append, List.nil_append, List.append_eq, List.length_cons, List.length_nil, Nat.reduceAdd, Nat.reduceMul, Nat.reduceSub, Int.reduceAdd, Int.reduceSub, Int.reduceToNat, Int.reduceNeg, Int.reduceMul]) | refine q_blocky rfl ?_ | refine W_plain rfl ?_ | refine W_drawn mixed rfl ?_ | refine and_chk (by kernel_rfl) ?_ | refine k_move rfl rfl ?_ | refine k_assign rfl rfl ?_ | refine k_load rfl rfl rfl rfl ?_ | refine k_alloc rfl ?_ | refine k_store rfl rfl rfl rfl rfl rfl rfl ?_ | refine k_extract rfl rfl rfl ?_ | refine k_fieldAddr rfl rfl rfl ?_ | refine k_build rfl rfl rfl ?_ | refine k_append rfl rfl rfl (by first | rfl | exact trivial | (show 0 < _; omega)) (by first | rfl | (simp <;> omega)) (by first | rfl | (simp <;> omega)) rfl (by omega) rfl rfl rfl ?_ | refine k_slice rfl rfl rfl rfl ⟨by omega, by omega, by omega⟩ rfl rfl rfl ?_ | refine k_slice3 rfl rfl rfl rfl rfl ⟨by omega, by omega, by omega⟩ rfl rfl rfl ?_ | refine k_sliceA rfl rfl rfl rfl ⟨by omega, by omega, by omega, by omega⟩ rfl rfl ?_ | refine k_sliceE rfl rfl rfl rfl ⟨by omega, by omega, by omega, by omega⟩ rfl rfl rfl rfl ?_ | refine k_buildSlice (cs := []) rfl rfl rfl rfl rfl rfl rfl ?_ | refine k_buildSlice rfl rfl rfl rfl rfl rfl rfl ?_ | refine k_indexAddr rfl rfl rfl ⟨by omega, by omega⟩ ?_ | refine k_indexAddrs rfl rfl rfl ⟨by omega, by omega⟩ rfl ?_ | refine k_loade rfl rfl rfl ?_ | refine k_fieldAddre rfl rfl rfl rfl ?_ | refine k_len rfl rfl ?_ | refine k_pickT rfl rfl rfl ?_ | refine k_pickF rfl rfl rfl ?_ | refine k_addi rfl rfl rfl (by omega) ?_ | refine k_lssT rfl rfl rfl (by omega) ?_ | refine k_lssF rfl rfl rfl (by omega) ?_ | refine k_eqlT rfl rfl rfl (by omega) ?_ | refine k_eqlF rfl rfl rfl (by omega) ?_ | refine k_neqT rfl rfl rfl (by omega) ?_ | refine k_neqF rfl rfl rfl (by omega) ?_ | refine k_eqa rfl rfl rfl rfl rfl rfl ?_ | refine k_nea rfl rfl rfl rfl rfl rfl ?_ | refine k_skip rfl ?_ | refine k_skip0 rfl ?_ | refine k_pick rfl rfl rfl rfl rfl ?_ | refine W_yes rfl ?_ | refine W_no rfl ?_)
    (first | with_reducible refine q_endr ?_ | with_reducible refine q_endn ?_); refine rets3 Try.results13 (by first | exact RetV.tmp _ _ rfl | exact RetV.cell _ _ _ _ _ _ _ _ inferInstance rfl rfl rfl) (by first | exact RetV.tmp _ _ rfl | exact RetV.cell _ _ _ _ _ _ _ _ inferInstance rfl rfl rfl) (by first | exact RetV.tmp _ _ rfl | exact RetV.cell _ _ _ _ _ _ _ _ inferInstance rfl rfl rfl) ?_ ?_ ?_
    · rw [← hzs]; rfl
    · rw [← hza]; rfl
    · rfl
end Go.Proofs.Ytokijcdanegooaa
