/- guard: Worth, met. Conditions: as said. -/
import Derived.Test.YtcfefmbbbfdppaaGreatDoorSBytes
import Derived.Test.YtcfefmbbbfdppaaGreatDoorSLoad11
import Derived.Test.YtcfefmbbbfdppaaGreatDoorSDCpy
namespace Go.Proofs.YtcfefmbbbfdppaaGreatDoor
open Go.RowKit Go.Lib Go.IntWalk
set_option linter.unusedVariables false
set_option maxRecDepth 100000
section
variable {T : TypeId} {v : Value} {dr : D} {F : FuncId} [HasFn Tryz.prog F] (c : UInt8) (r : List UInt8) (L n : Nat) (hn : r.length = n) (hL : n + 1 = L) (hL9 : L ≤ 140737488355328) (hk : Pur Tryz.prog 80 [.int .i64 (c.toNat : Int)] (.tup [.raw (.iface T v), .bool true]))
  (Y : List D) (hYl : Y.length = 80) (hYy : ∀ cs : List D, cs.length = 80 → splice 0 Y cs = some Y) (hYc : D.cls Y = true) (e : Int) (hg : Pur Tryz.prog F [dr, .slice .frozen n (bs r)] (.tup [.agg Y, .int .i64 e]))
  (hm : ∀ w, (Go.method (Tryz.prog.types.size + Made.depth) T v "bascule/load.get").run Tryz.prog w = .ok (F, v) w) (hnil : ∀ w, (Go.nilAhead (Tryz.prog.types.size + Made.depth) T v "bascule/load.get").run Tryz.prog w = .ok (some false) w)
  (hrv : ∀ G w, Rep G w dr v) (hdr : dr.fz = dr) (hcd : dr.cl = true)
include hn hL hL9 hk hYl hYy hYc hg hm hnil hrv hdr hcd
variable (X : List D) (hYX : splice 0 [.int .i64 (c.toNat : Int)] Y = some X) (hXa : ∀ ze, cut ⟨true, 80, ze⟩ 0 X = some (.agg X)) (hXz : D.fzs X = X) (hXc : D.cls X = true) (hXl : X.length = 80) (hXy : ∀ cs : List D, cs.length = 80 → splice 0 X cs = some X) (f : Int) (hC : Pur Tryz.prog 79 [.agg X] (.int .i64 f)) (he : e = 0)
include hYX hXa hXz hXc hXl hXy hC he
set_option maxHeartbeats 8000000 in
theorem Decode_ok (hf : f = 0) : Pur Tryz.prog 108 [.slice .frozen L (bs (c :: r))] (.tup [.agg X, .int .i64 0]) := by
  subst he hf
  have c1 : D.cls [dr, .slice .frozen n (bs r)] = true := by show (dr.cl && true) = true; rw [hcd]; rfl
  have hgc : (D.tup [.agg Y, .int .i64 0]).cl = true := by show (D.cls Y && true) = true; rw [hYc]; rfl
  have hrc : (D.tup [.agg X, .int .i64 0]).cl = true := by show (D.cls X && true) = true; rw [hXc]; rfl
  have c2 : D.cls [.agg X] = true := by show (D.cls X && true) = true; rw [hXc]; rfl
  have z2 : D.fzs [.agg X] = [.agg X] := by show [D.agg (D.fzs X)] = _; rw [hXz]
  have hb0 : ∀ ze, cut ⟨false, 1, ze⟩ 0 ((bs (c :: r)).drop ((0 : Int).toNat * 1)) = some (.int .u8 (c.toNat : Int)) := bs_nth (c :: r) [] r c rfl _ rfl
  have p1 : ((bs (c :: r)).drop ((1 : Int).toNat * 1)).take (n * 1) = bs r := bs_mid (c :: r) [c] r [] (by simp) _ _ rfl (by omega)
  have hz1 : L * 1 = (bs (c :: r)).length := by rw [bs_len, List.length_cons]; omega
  have q0 := c.toNat_lt
  have c0 : IntKind.i64.wrap (c.toNat : Int) = (c.toNat : Int) := i64_in _ (by omega)
  have hq : ((L : Int) - 1).toNat = n := by omega
  have hz : ∀ ze, cut ⟨true, 80, ze⟩ 0 ld0 = some (.agg ld0) := ldC_all z32_len z32_len _ rfl
  have hfz := ld0_fz
  have hbz : dfill ldPl ld0 [] = some ld0 := rfl
  have hlen : ld0.length = 80 := ldC_len z32_len z32_len _ rfl
  have hlay : ∀ cs : List D, cs.length = 80 → splice 0 ld0 cs = some ld0 := ldC_lay z32_len z32_len _ rfl
  generalize c.toNat = C at *
  generalize bs (c :: r) = Z at *
  refine pur_intro Tryz.func108 rfl Tryz.ntmps108 rfl hrc fun B => ?_
  repeat (first | refine zC ?_ | (refine k_slice (nn := n) rfl rfl rfl rfl ⟨?_, ?_, ?_⟩ hz1 hq p1 ?_; (omega); (omega); (omega)) | (refine k_indexAddrs rfl rfl rfl ⟨?_, ?_⟩ hz1 ?_; (omega); (omega)) | refine k_loade rfl rfl (hb0 _) ?_ | refine k_store rfl rfl rfl rfl (by exact hlen) rfl (by exact hlay _ rfl) ?_ | refine k_store rfl rfl rfl rfl (by exact hYl) rfl (by exact hYy _ rfl) ?_ | refine k_store rfl rfl rfl rfl rfl rfl hYX ?_ | refine k_load rfl rfl rfl (hXa _) ?_ | refine k_store rfl rfl rfl rfl (by exact hXl) rfl (by exact hXy _ rfl) ?_ | refine zA ?_ | refine k_conv rfl rfl c0 ?_ | refine k_call rfl hk rfl rfl rfl rfl ?_ | refine k_makeMeth rfl rfl ?_ | refine k_nilMeth rfl hnil rfl ?_ | refine k_invoke rfl hg hm hrv hdr rfl rfl rfl c1 hgc ?_ | refine k_call rfl hC rfl z2 c2 rfl ?_ | refine zB ?_)
  (first | with_reducible refine q_endr ?_); refine rets2 Tryz.results108 (RetV.cell _ _ _ _ _ _ _ _ inferInstance rfl rfl (by exact hXa _)) (RetV.tmp _ _ rfl) ?_ rfl
  show D.agg (D.fzs X) = _
  rw [hXz]
end
end Go.Proofs.YtcfefmbbbfdppaaGreatDoor
namespace Go.Proofs.YtcfefmbbbfdppaaGreatDoor
open Go.RowKit Go.Lib Go.IntWalk
set_option linter.unusedVariables false
set_option maxRecDepth 100000
def knowsB (id : Nat) (l : List BodyT) : Bool := l.any fun b => decide (b.id = id)
set_option maxHeartbeats 16000000 in
theorem knows_ok (x : GuT) (h : x.ok) (id : Nat) (r : Bool) (hr : knowsB id (x.dn ++ x.hd) = r) : Pur Tryz.prog 59 [.agg x.cells, .int .i64 (id : Int)] (.bool r) := by
  obtain ⟨_, _, _, hhd, hdn⟩ := h
  have c1 := bdC_cut x.hd hhd.em
  have c2 := bdC_cut x.dn hdn.em
  have l1 := bdC_len x.hd hhd.em
  have l2 := bdC_len x.dn hdn.em
  have i1 := fun b hb => Id_ok b (hhd.ok b hb)
  have i2 := fun b hb => Id_ok b (hdn.ok b hb)
  have k1 := hhd.len
  have k2 := hdn.len
  have e1 := fun b hb => (hhd.ok b hb).e
  have e2 := fun b hb => (hdn.ok b hb).e
  have hyes : (∃ b ∈ x.dn ++ x.hd, b.id = id) → r = true := by
    rintro ⟨b, hb, e⟩
    rw [← hr]; unfold knowsB
    exact List.any_eq_true.2 ⟨b, hb, by simpa using e⟩
  have hno : (∀ b ∈ x.dn, b.id ≠ id) → (∀ b ∈ x.hd, b.id ≠ id) → r = false := by
    intro h1 h2
    rw [← hr]; unfold knowsB
    rw [List.any_eq_false]
    intro b hb
    rcases List.mem_append.1 hb with hb | hb
    · simpa using h1 b hb
    · simpa using h2 b hb
  clear hr
  unfold GuT.cells guC bD mD
  obtain ⟨f, g, la, si, hd, dn⟩ := x
  dsimp only at *
  generalize hn1 : hd.length = n1 at *
  generalize hn2 : dn.length = n2 at *
  generalize bdC hd = y1 at *
  generalize bdC dn = y2 at *
  generalize bs la = y3 at *
  generalize bs si = y4 at *
  generalize qsC f.past = z1 at *
  generalize qsC f.queue = z2 at *
  generalize qsC g.past = z3 at *
  generalize qsC g.queue = z4 at *
  have q1 : n1 * 38 = y1.length := l1.symm
  have q2 : n2 * 38 = y2.length := l2.symm
  refine pur_intro Tryz.func59 rfl Tryz.ntmps59 rfl (by first | rfl | assumption | exact bs_cl _) fun B => ?_
  refine zR ?_
  refine W_loopW (fun n' ρ m nx => ∃ j : Nat, j ≤ 2 ∧ (1 ≤ j → ∀ b ∈ dn, b.id ≠ id) ∧ (2 ≤ j → ∀ b ∈ hd, b.id ≠ id) ∧ n' = 2 - j ∧ ρ = [(14, .int .i64 (j : Int)), (13, .agg [.slice .frozen n2 y2, .slice .frozen n1 y1]), (4, .bool false), (1, .int .i64 (id : Int))] ∧ m = [] ∧ nx = 0)
    ⟨_, _, _, _, (by exact zF (fun l => l)), 0, Nat.zero_le _, fun h => absurd h (by decide), fun h => absurd h (by decide), rfl, rfl, rfl, rfl⟩ ?_
  rintro n' ρ m nx ⟨j, hj, o1, o2, rfl, rfl, rfl, rfl⟩
  have h3 : j = 0 ∨ j = 1 ∨ j = 2 := by omega
  rcases h3 with rfl | rfl | rfl
  · refine zR ?_
    refine W_loopW (fun n' ρ m nx => ∃ i : Nat, i ≤ n2 ∧ (∀ k b, k < i → dn[k]? = some b → b.id ≠ id) ∧ n' = n2 - i ∧ ρ = [(19, .int .i64 (i : Int)), (18, .int .i64 (n2 : Int)), (17, .slice .frozen n2 y2), (14, .int .i64 0), (13, .agg [.slice .frozen n2 y2, .slice .frozen n1 y1]), (4, .bool false), (1, .int .i64 (id : Int))] ∧ m = [] ∧ nx = 0)
      ⟨_, _, _, _, (by exact zF (fun l => l)), 0, Nat.zero_le _, fun k y h => absurd h (Nat.not_lt_zero _), rfl, rfl, rfl, rfl⟩ ?_
    rintro n' ρ m nx ⟨i, hi, hnot, rfl, rfl, rfl, rfl⟩
    by_cases hlt : i < n2
    · obtain ⟨b, hb⟩ : ∃ b, dn[i]? = some b := ⟨_, List.getElem?_eq_getElem (by omega)⟩
      have hmb := List.mem_of_getElem? hb
      have hcb := c2 i b hb
      have hib := i2 b hmb
      have heb := e2 b hmb
      have hbl := bd_len heb
      have hball := bd_all heb
      have hbput := bd_put heb
      have hbfz := bd_fz b
      have hbcl := bd_cl b
      have hb38 : (D.agg b.cells).cells.length = 38 := hbl
      have hmem : b ∈ dn ++ hd := List.mem_append.2 (.inl hmb)
      have hyb := fun e => hyes ⟨b, hmem, e⟩
      have hdne : ∀ k y, k < i + 1 → b.id ≠ id → dn[k]? = some y → y.id ≠ id := fun k y hk hne hky => by
        rcases Nat.lt_or_ge k i with h | h
        · exact hnot k y h hky
        · have ek : k = i := by omega
          subst ek
          rw [hb] at hky
          injection hky with hky
          rw [← hky]; exact hne
      generalize hcc : b.cells = bc at *
      generalize hid : b.id = bi at *
      by_cases he : bi = id
      · have hrz := hyb he
        subst hrz
        repeat (first | refine zC ?_ | (refine k_indexAddrs rfl rfl rfl ⟨?_, ?_⟩ q2 ?_; (omega); (omega)) | refine k_loade rfl rfl (hcb _) ?_ | refine k_store rfl rfl rfl rfl (by exact hb38) rfl (by exact hbput _ rfl) ?_ | refine k_load rfl rfl rfl (hball _) ?_ | refine zA ?_ | refine k_call rfl hib rfl hbfz hbcl rfl ?_ | refine zB ?_)
        (first | with_reducible refine q_endr ?_); refine rets1 Tryz.results59 (by exact zv) ?_
        rfl
      · repeat (first | refine zC ?_ | (refine k_indexAddrs rfl rfl rfl ⟨?_, ?_⟩ q2 ?_; (omega); (omega)) | refine k_loade rfl rfl (hcb _) ?_ | refine k_store rfl rfl rfl rfl (by exact hb38) rfl (by exact hbput _ rfl) ?_ | refine k_load rfl rfl rfl (hball _) ?_ | refine zA ?_ | refine k_call rfl hib rfl hbfz hbcl rfl ?_ | refine zB ?_)
        exact ⟨n2 - (i + 1), _, _, _, (by exact zF (fun l => l)), by omega, i + 1, by omega, fun k y hk hky => hdne k y hk he hky, rfl, rfl, rfl, rfl⟩
    · have ei : i = n2 := by omega
      subst ei
      have hall : ∀ b ∈ dn, b.id ≠ id := fun b hb => by
        obtain ⟨k, hk⟩ := List.getElem?_of_mem hb
        exact hnot k b (by have := (List.getElem?_eq_some_iff.1 hk).1; omega) hk
      refine zR ?_
      exact ⟨1, _, _, _, (by exact zF (fun l => l)), by omega, 1, by omega, fun _ => hall, fun h => absurd h (by decide), rfl, rfl, rfl, rfl⟩
  · refine zR ?_
    refine W_loopW (fun n' ρ m nx => ∃ i : Nat, i ≤ n1 ∧ (∀ k b, k < i → hd[k]? = some b → b.id ≠ id) ∧ n' = n1 - i ∧ ρ = [(19, .int .i64 (i : Int)), (18, .int .i64 (n1 : Int)), (17, .slice .frozen n1 y1), (14, .int .i64 1), (13, .agg [.slice .frozen n2 y2, .slice .frozen n1 y1]), (4, .bool false), (1, .int .i64 (id : Int))] ∧ m = [] ∧ nx = 0)
      ⟨_, _, _, _, (by exact zF (fun l => l)), 0, Nat.zero_le _, fun k y h => absurd h (Nat.not_lt_zero _), rfl, rfl, rfl, rfl⟩ ?_
    rintro n' ρ m nx ⟨i, hi, hnot, rfl, rfl, rfl, rfl⟩
    by_cases hlt : i < n1
    · obtain ⟨b, hb⟩ : ∃ b, hd[i]? = some b := ⟨_, List.getElem?_eq_getElem (by omega)⟩
      have hmb := List.mem_of_getElem? hb
      have hcb := c1 i b hb
      have hib := i1 b hmb
      have heb := e1 b hmb
      have hbl := bd_len heb
      have hball := bd_all heb
      have hbput := bd_put heb
      have hbfz := bd_fz b
      have hbcl := bd_cl b
      have hb38 : (D.agg b.cells).cells.length = 38 := hbl
      have hmem : b ∈ dn ++ hd := List.mem_append.2 (.inr hmb)
      have hyb := fun e => hyes ⟨b, hmem, e⟩
      have hdne : ∀ k y, k < i + 1 → b.id ≠ id → hd[k]? = some y → y.id ≠ id := fun k y hk hne hky => by
        rcases Nat.lt_or_ge k i with h | h
        · exact hnot k y h hky
        · have ek : k = i := by omega
          subst ek
          rw [hb] at hky
          injection hky with hky
          rw [← hky]; exact hne
      generalize hcc : b.cells = bc at *
      generalize hid : b.id = bi at *
      by_cases he : bi = id
      · have hrz := hyb he
        subst hrz
        repeat (first | refine zC ?_ | (refine k_indexAddrs rfl rfl rfl ⟨?_, ?_⟩ q1 ?_; (omega); (omega)) | refine k_loade rfl rfl (hcb _) ?_ | refine k_store rfl rfl rfl rfl (by exact hb38) rfl (by exact hbput _ rfl) ?_ | refine k_load rfl rfl rfl (hball _) ?_ | refine zA ?_ | refine k_call rfl hib rfl hbfz hbcl rfl ?_ | refine zB ?_)
        (first | with_reducible refine q_endr ?_); refine rets1 Tryz.results59 (by exact zv) ?_
        rfl
      · repeat (first | refine zC ?_ | (refine k_indexAddrs rfl rfl rfl ⟨?_, ?_⟩ q1 ?_; (omega); (omega)) | refine k_loade rfl rfl (hcb _) ?_ | refine k_store rfl rfl rfl rfl (by exact hb38) rfl (by exact hbput _ rfl) ?_ | refine k_load rfl rfl rfl (hball _) ?_ | refine zA ?_ | refine k_call rfl hib rfl hbfz hbcl rfl ?_ | refine zB ?_)
        exact ⟨n1 - (i + 1), _, _, _, (by exact zF (fun l => l)), by omega, i + 1, by omega, fun k y hk hky => hdne k y hk he hky, rfl, rfl, rfl, rfl⟩
    · have ei : i = n1 := by omega
      subst ei
      have hall : ∀ b ∈ hd, b.id ≠ id := fun b hb => by
        obtain ⟨k, hk⟩ := List.getElem?_of_mem hb
        exact hnot k b (by have := (List.getElem?_eq_some_iff.1 hk).1; omega) hk
      refine zR ?_
      exact ⟨0, _, _, _, (by exact zF (fun l => l)), by omega, 2, by omega, fun _ => o1 (by decide), fun _ => hall, rfl, rfl, rfl, rfl⟩
  · have hrz := hno (o1 (by decide)) (o2 (by decide))
    subst hrz
    refine zR ?_
    (first | with_reducible refine q_endr ?_); refine rets1 Tryz.results59 (by exact zv) ?_
    rfl
end Go.Proofs.YtcfefmbbbfdppaaGreatDoor
namespace Go.Proofs.YtcfefmbbbfdppaaGreatDoor
open Go.RowKit Go.Lib Go.IntWalk
set_option linter.unusedVariables false
set_option maxRecDepth 100000
theorem ud_small (n : Nat) (h : n ≤ 1073741824) : ud n = [.int .u64 (n : Int), .int .u64 0, .int .u64 0, .int .u64 0] := by
  have h0 : lim n 0 = (n : Int) := by rw [lim0]; omega
  have h1 : lim n 1 = 0 := by rw [lim1]; omega
  have h2 : lim n 2 = 0 := by rw [lim2]; omega
  have h3 : lim n 3 = 0 := by
    unfold lim
    have : n / 18446744073709551616 ^ 3 = 0 := Nat.div_eq_of_lt (by omega)
    rw [this]; rfl
  unfold ud
  rw [h0, h1, h2, h3]
def Wor (b : BodyT) (am : Nat) : Prop := am ≤ 1073741824 ∧ ∃ X : List D, X.length = 80 ∧ D.cls X = true ∧ (∀ ze, cut ⟨false, 1, ze⟩ 0 X = some (.int .i64 1)) ∧ (∀ ze, cut ⟨true, 4, ze⟩ 1 X = some (U am)) ∧ Pur Tryz.prog 108 [.slice .frozen b.l.length (bs b.l)] (.tup [.agg X, .int .i64 0])
set_option maxHeartbeats 16000000 in
theorem Worth_ok (b : BodyT) (h : b.ok) (am : Nat) (hw : Wor b am) : Pur Tryz.prog 90 [.agg b.cells] (.int .i64 (am : Int)) := by
  obtain ⟨h1, X, x1, x2, x3, x4, hd⟩ := hw
  have hld := bd_at h.e 2 _ rfl
  have hXy : ∀ cs : List D, cs.length = 80 → splice 0 X cs = some X := fun cs hc => by
    unfold splice
    rw [Nat.ble_eq_true_of_le (by rw [x1, hc]; exact Nat.le_refl _), cond_true, Nat.zero_add, List.drop_of_length_le (by rw [x1, hc]; exact Nat.le_refl _)]
    simp
  have ht : D.cl (.tup [.agg X, .int .i64 0]) = true := by show (D.cls X && true) = true; rw [x2]; rfl
  rw [show U am = .agg (ud am) from rfl, ud_small am h1] at x4
  have hcv : IntKind.i64.wrap (am : Int) = (am : Int) := i64_in _ (by omega)
  have hbits : bitw .or .u64 0 0 = 0 := by decide
  generalize b.cells = bc at *
  refine pur_intro Tryz.func90 rfl Tryz.ntmps90 rfl (by first | rfl | assumption | exact bs_cl _) fun B => ?_
  repeat (first | refine zC ?_ | refine k_load rfl rfl rfl (by exact hld _ _ rfl) ?_ | refine k_store rfl rfl rfl rfl (by exact x1) rfl (by exact hXy _ rfl) ?_ | refine k_load rfl rfl rfl (x3 _) ?_ | refine k_load rfl rfl rfl (x4 _) ?_ | refine k_bits rfl rfl rfl rfl hbits ?_ | refine zA ?_ | refine k_call rfl hd rfl rfl rfl ht ?_ | refine k_conv rfl rfl hcv ?_ | refine zB ?_)
  (first | with_reducible refine q_endr ?_); refine rets1 Tryz.results90 (by exact zv) ?_
  rfl
def guO (x : GuT) (i j : Nat) : List D := guC x.f x.g (bD x.la) (bD x.si) (.slice (.own i) x.hd.length (bdC x.hd)) (.slice (.own j) x.dn.length (bdC x.dn))
def qOf (x : GuT) (b : BodyT) (am : Nat) : QT := ⟨b.id, am, b.c, x.g.now⟩
def GuT.pass (x : GuT) (b : BodyT) (am : Nat) : GuT := { x with g := x.g.pass (qOf x b am), dn := x.dn ++ [b] }
def GuT.hold (x : GuT) (b : BodyT) (am : Nat) : GuT := { x with g := x.g.hold (qOf x b am), hd := x.hd ++ [b] }
theorem offNew (g : GT) (x : QT) (hn : ∀ q ∈ g.past ++ g.queue, q.id ≠ x.id) (hq : g.queue.length ≠ 40) : offerD g x = .tup [.agg (if g.fits x = true then g.pass x else g.hold x).cells, .bool (g.fits x), .int .i64 0] := by
  unfold offerD
  rw [if_neg (by rw [has_no hn]; simp)]
  cases h : g.fits x with
  | true => rw [if_pos rfl, if_pos rfl]
  | false => rw [if_neg (by decide), if_neg hq, if_neg (by decide)]
section
variable (x : GuT) (h : x.ok) (b : BodyT) (hb : b.ok) (hc3 : b.c < 3) (hu : b.u < 256) (am : Nat) (hw : Wor b am) (hn : ∀ q ∈ x.g.past ++ x.g.queue, q.id ≠ b.id) (hq : x.g.queue.length ≠ 40)
include h hb hc3 hu hw hn hq
set_option maxHeartbeats 16000000 in
theorem Met_pass (hf : x.g.fits (qOf x b am) = true) : Fn Tryz.prog 61 2 [.agg (guO x 0 1), .agg b.cells] [(0, some (.tok 50 38)), (1, some (.tok 50 38))] (.tup [.agg (guO (x.pass b am) 0 2), .int .i64 0]) [(0, some (.tok 50 38)), (2, some (.tok 50 38))] := by
  have hi := Id_ok b hb
  have hwo := Worth_ok b hb am hw
  have hidl : b.id < 1099511627776 := by unfold BodyT.id; omega
  have hof := Offer_ok x.g h.g b.id am b.c hidl hw.1 hc3 _ rfl
  rw [offNew x.g ⟨b.id, am, b.c, x.g.now⟩ hn hq, show x.g.fits ⟨b.id, am, b.c, x.g.now⟩ = true from hf, if_pos rfl] at hof
  rw [show (⟨b.id, am, b.c, x.g.now⟩ : QT) = qOf x b am from rfl] at hof
  have hbo := gbody_ok b hb.e (by have := hb.l; omega)
  have hbl := bd_len hb.e
  have hball := bd_all hb.e
  have hbput := bd_put hb.e
  have hbc := bd_cls b
  have hbcl := bd_cl b
  have hbfz := bd_fz b
  have hbfz1 : D.fzs b.cells = b.cells := by have := hbfz; simpa [D.fzs, D.fz] using this
  have hbc1 : (D.agg b.cells).cl = true := hbc
  have hb38 : (D.agg b.cells).cells.length = 38 := hbl
  have h1c : 1 * 38 = b.cells.length := by omega
  have hbs := one_fill b hb.e
  have hcc : ∀ ze, cut ⟨false, 1, ze⟩ 2 b.cells = some (.int .i64 (b.c : Int)) := fun _ => rfl
  have z1l : x.hd.length * 38 = (bdC x.hd).length := (bdC_len x.hd h.hd.em).symm
  have z2l : x.dn.length * 38 = (bdC x.dn).length := (bdC_len x.dn h.dn.em).symm
  have s1 : x.hd.length + 1 ≤ 16777216 := by have := h.hd.len; omega
  have s2 : x.dn.length + 1 ≤ 16777216 := by have := h.dn.len; omega
  have gcut : ∀ (l0 l1 l2 b0 b1 b2 now : D) (p q : D) ze, cut ⟨true, 9, ze⟩ 0 [l0, l1, l2, b0, b1, b2, now, p, q] = some (.agg [l0, l1, l2, b0, b1, b2, now, p, q]) := fun _ _ _ _ _ _ _ _ _ _ => rfl
  have hap : bdC x.dn ++ b.cells = bdC (x.dn ++ [b]) := by rw [bdC_app, bdC_one]
  have hln : x.dn.length + 1 = (x.dn ++ [b]).length := by rw [List.length_append]; rfl
  unfold guO GuT.pass
  dsimp only
  rw [← hln]
  obtain ⟨zz, hzz⟩ : ∃ z, bdC (x.dn ++ [b]) = z := ⟨_, rfl⟩
  rw [hzz] at hap ⊢
  unfold guC bD
  unfold GT.cells gC qD at hof
  generalize x.g.pass (qOf x b am) = g2 at *
  replace hof : Pur Tryz.prog 89 [_, _, _, _] (.tup [.agg [.int .i64 g2.l0, .int .i64 g2.l1, .int .i64 g2.l2, .int .i64 g2.b0, .int .i64 g2.b1, .int .i64 g2.b2, .int .i64 g2.now, .slice .frozen g2.past.length (qsC g2.past), .slice .frozen g2.queue.length (qsC g2.queue)], .bool true, .int .i64 0]) := hof
  generalize bdC x.hd = y1 at *
  generalize bdC x.dn = y2 at *
  generalize bs x.la = y3 at *
  generalize bs x.si = y4 at *
  generalize qsC x.f.past = z1 at *
  generalize qsC x.f.queue = z2 at *
  generalize qsC x.g.past = z3 at *
  generalize qsC x.g.queue = z4 at *
  generalize qsC g2.past = z5 at *
  generalize qsC g2.queue = z6 at *
  generalize hbce : b.cells = bc at *
  generalize b.id = bi at *
  generalize b.c = bch at *
  refine fn_intro Tryz.func61 rfl Tryz.ntmps61 rfl fun B => ?_
  repeat (first | refine zC ?_ | refine k_load rfl rfl rfl (gcut _ _ _ _ _ _ _ _ _ _) ?_ | refine k_load rfl rfl rfl (hball _) ?_ | refine k_load rfl rfl rfl (hcc _) ?_ | refine k_buildSlice rfl rfl hbs hbfz1 hbc rfl rfl ?_ | (refine k_append rfl rfl rfl ?_ z2l h1c rfl s2 rfl rfl (by exact hap) ?_; (rfl)) | refine zA ?_ | refine k_call rfl hi rfl hbfz hbcl rfl ?_ | refine k_call rfl hwo rfl hbfz hbcl rfl ?_ | refine k_call rfl hof rfl rfl rfl rfl ?_ | refine k_call rfl hbo rfl hbfz hbcl hbc1 ?_ | refine zB ?_)
  first | exact (q_endf (fun l => if l = 2 then 7 else l) 3 (RetsF.r2 (by exact zv) (by exact zu) (by exact zv) (by exact zu)) rfl (by repeat (first | exact trivial | refine ⟨⟨rfl, _, rfl, Ups.refl _, rfl⟩, ?_⟩ | refine ⟨⟨rfl, rfl⟩, ?_⟩)) rfl rfl rfl).2 | exact (q_endf (fun l => if l = 2 then 7 else l) 3 (RetsF.r2 (by exact zv) (by exact zu) (by exact zv) (by exact zu)) rfl (by repeat (first | exact trivial | refine ⟨⟨rfl, _, rfl, Ups.refl _, rfl⟩, ?_⟩ | refine ⟨⟨rfl, rfl⟩, ?_⟩)) rfl rfl rfl).1
set_option maxHeartbeats 16000000 in
theorem Met_hold (hf : x.g.fits (qOf x b am) = false) : Fn Tryz.prog 61 2 [.agg (guO x 0 1), .agg b.cells] [(0, some (.tok 50 38)), (1, some (.tok 50 38))] (.tup [.agg (guO (x.hold b am) 2 1), .int .i64 0]) [(1, some (.tok 50 38)), (2, some (.tok 50 38))] := by
  have hi := Id_ok b hb
  have hwo := Worth_ok b hb am hw
  have hidl : b.id < 1099511627776 := by unfold BodyT.id; omega
  have hof := Offer_ok x.g h.g b.id am b.c hidl hw.1 hc3 _ rfl
  rw [offNew x.g ⟨b.id, am, b.c, x.g.now⟩ hn hq, show x.g.fits ⟨b.id, am, b.c, x.g.now⟩ = false from hf, if_neg (by decide)] at hof
  rw [show (⟨b.id, am, b.c, x.g.now⟩ : QT) = qOf x b am from rfl] at hof
  have hbo := gbody_ok b hb.e (by have := hb.l; omega)
  have hbl := bd_len hb.e
  have hball := bd_all hb.e
  have hbput := bd_put hb.e
  have hbc := bd_cls b
  have hbcl := bd_cl b
  have hbfz := bd_fz b
  have hbfz1 : D.fzs b.cells = b.cells := by have := hbfz; simpa [D.fzs, D.fz] using this
  have hbc1 : (D.agg b.cells).cl = true := hbc
  have hb38 : (D.agg b.cells).cells.length = 38 := hbl
  have h1c : 1 * 38 = b.cells.length := by omega
  have hbs := one_fill b hb.e
  have hcc : ∀ ze, cut ⟨false, 1, ze⟩ 2 b.cells = some (.int .i64 (b.c : Int)) := fun _ => rfl
  have z1l : x.hd.length * 38 = (bdC x.hd).length := (bdC_len x.hd h.hd.em).symm
  have z2l : x.dn.length * 38 = (bdC x.dn).length := (bdC_len x.dn h.dn.em).symm
  have s1 : x.hd.length + 1 ≤ 16777216 := by have := h.hd.len; omega
  have s2 : x.dn.length + 1 ≤ 16777216 := by have := h.dn.len; omega
  have gcut : ∀ (l0 l1 l2 b0 b1 b2 now : D) (p q : D) ze, cut ⟨true, 9, ze⟩ 0 [l0, l1, l2, b0, b1, b2, now, p, q] = some (.agg [l0, l1, l2, b0, b1, b2, now, p, q]) := fun _ _ _ _ _ _ _ _ _ _ => rfl
  have hap : bdC x.hd ++ b.cells = bdC (x.hd ++ [b]) := by rw [bdC_app, bdC_one]
  have hln : x.hd.length + 1 = (x.hd ++ [b]).length := by rw [List.length_append]; rfl
  unfold guO GuT.hold
  dsimp only
  rw [← hln]
  obtain ⟨zz, hzz⟩ : ∃ z, bdC (x.hd ++ [b]) = z := ⟨_, rfl⟩
  rw [hzz] at hap ⊢
  unfold guC bD
  unfold GT.cells gC qD at hof
  generalize x.g.hold (qOf x b am) = g2 at *
  replace hof : Pur Tryz.prog 89 [_, _, _, _] (.tup [.agg [.int .i64 g2.l0, .int .i64 g2.l1, .int .i64 g2.l2, .int .i64 g2.b0, .int .i64 g2.b1, .int .i64 g2.b2, .int .i64 g2.now, .slice .frozen g2.past.length (qsC g2.past), .slice .frozen g2.queue.length (qsC g2.queue)], .bool false, .int .i64 0]) := hof
  generalize bdC x.hd = y1 at *
  generalize bdC x.dn = y2 at *
  generalize bs x.la = y3 at *
  generalize bs x.si = y4 at *
  generalize qsC x.f.past = z1 at *
  generalize qsC x.f.queue = z2 at *
  generalize qsC x.g.past = z3 at *
  generalize qsC x.g.queue = z4 at *
  generalize qsC g2.past = z5 at *
  generalize qsC g2.queue = z6 at *
  generalize hbce : b.cells = bc at *
  generalize b.id = bi at *
  generalize b.c = bch at *
  refine fn_intro Tryz.func61 rfl Tryz.ntmps61 rfl fun B => ?_
  repeat (first | refine zC ?_ | refine k_load rfl rfl rfl (gcut _ _ _ _ _ _ _ _ _ _) ?_ | refine k_load rfl rfl rfl (hball _) ?_ | refine k_load rfl rfl rfl (hcc _) ?_ | refine k_buildSlice rfl rfl hbs hbfz1 hbc rfl rfl ?_ | (refine k_append rfl rfl rfl ?_ z1l h1c rfl s1 rfl rfl (by exact hap) ?_; (rfl)) | refine zA ?_ | refine k_call rfl hi rfl hbfz hbcl rfl ?_ | refine k_call rfl hwo rfl hbfz hbcl rfl ?_ | refine k_call rfl hof rfl rfl rfl rfl ?_ | refine k_call rfl hbo rfl hbfz hbcl hbc1 ?_ | refine zB ?_)
  first | exact (q_endf (fun l => if l = 2 then 7 else l) 3 (RetsF.r2 (by exact zv) (by exact zu) (by exact zv) (by exact zu)) rfl (by repeat (first | exact trivial | refine ⟨⟨rfl, _, rfl, Ups.refl _, rfl⟩, ?_⟩ | refine ⟨⟨rfl, rfl⟩, ?_⟩)) rfl rfl rfl).2 | exact (q_endf (fun l => if l = 2 then 7 else l) 3 (RetsF.r2 (by exact zv) (by exact zu) (by exact zv) (by exact zu)) rfl (by repeat (first | exact trivial | refine ⟨⟨rfl, _, rfl, Ups.refl _, rfl⟩, ?_⟩ | refine ⟨⟨rfl, rfl⟩, ?_⟩)) rfl rfl rfl).1
end
end Go.Proofs.YtcfefmbbbfdppaaGreatDoor
