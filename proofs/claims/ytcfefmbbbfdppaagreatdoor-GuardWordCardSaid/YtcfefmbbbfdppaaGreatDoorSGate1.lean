/- gate's value, Check. Conditions: a gate that may be. -/
import Derived.Test.YtcfefmbbbfdppaaGreatDoorSBx
import Derived.Test.YtcfefmbbbfdppaaGreatDoorSDMore
import Derived.Test.YtcfefmbbbfdppaaGreatDoorSDK2
import Derived.Test.YtcfefmbbbfdppaaGreatDoorSDInst
import Derived.Test.YtcfefmbbbfdppaaGreatDoorSBytes
namespace Go.Proofs.YtcfefmbbbfdppaaGreatDoor
open Go.RowKit Go.Lib Go.IntWalk
set_option linter.unusedVariables false
set_option maxRecDepth 100000
def bdC (l : List BodyT) : List D := l.flatMap BodyT.cells
def Em (l : List BodyT) : Prop := ∀ b ∈ l, b.e.length = 32
theorem Em.take {l : List BodyT} (h : Em l) (j : Nat) : Em (l.take j) := fun x hx => h x (List.mem_of_mem_take hx)
theorem bdC_app (a b : List BodyT) : bdC (a ++ b) = bdC a ++ bdC b := List.flatMap_append
theorem bdC_one (b : BodyT) : bdC [b] = b.cells := by simp [bdC]
theorem bdC_len : ∀ (l : List BodyT), Em l → (bdC l).length = l.length * 38
  | [], _ => rfl
  | b :: l, h => by
    have h1 := bd_len (h b (List.mem_cons.2 (.inl rfl)))
    have h2 := bdC_len l fun x hx => h x (List.mem_cons.2 (.inr hx))
    show (b.cells ++ bdC l).length = _
    rw [List.length_append, h1, h2, List.length_cons]; omega
theorem bdC_cls (l : List BodyT) : D.cls (bdC l) = true := D.cls_of fun d hd => by
  obtain ⟨b, _, hb⟩ := List.mem_flatMap.1 hd
  exact D.cls_mem (bd_cls b) d hb
theorem bdC_drop (l : List BodyT) (h : Em l) (j : Nat) (hj : j ≤ l.length) : (bdC l).drop (j * 38) = bdC (l.drop j) := by
  have e : bdC l = bdC (l.take j) ++ bdC (l.drop j) := by rw [← bdC_app, List.take_append_drop]
  have hl := bdC_len (l.take j) (h.take j)
  rw [List.length_take, Nat.min_eq_left hj] at hl
  rw [e, List.drop_append, List.drop_of_length_le (by omega), hl, Nat.sub_self, List.drop_zero, List.nil_append]
theorem bdC_take (l : List BodyT) (h : Em l) (j : Nat) (hj : j ≤ l.length) : (bdC l).take (j * 38) = bdC (l.take j) := by
  have e : bdC l = bdC (l.take j) ++ bdC (l.drop j) := by rw [← bdC_app, List.take_append_drop]
  have hl := bdC_len (l.take j) (h.take j)
  rw [List.length_take, Nat.min_eq_left hj] at hl
  rw [e, List.take_append, List.take_of_length_le (by omega), hl, Nat.sub_self, List.take_zero, List.append_nil]
theorem bdC_cut (l : List BodyT) (h : Em l) (j : Nat) (b : BodyT) (hb : l[j]? = some b) (ze : List D) : cut ⟨true, 38, ze⟩ 0 ((bdC l).drop ((j : Int).toNat * 38)) = some (.agg b.cells) := by
  obtain ⟨hlt, hbe⟩ := List.getElem?_eq_some_iff.1 hb
  have h1 := bd_len (h b (List.mem_of_getElem? hb))
  rw [Int.toNat_natCast, bdC_drop l h j (by omega), List.drop_eq_getElem_cons hlt, hbe]
  show cut _ 0 (b.cells ++ bdC (l.drop (j + 1))) = _
  unfold cut
  simp only [cond_true, Nat.zero_add, List.length_append, List.drop_zero]
  rw [Nat.ble_eq_true_of_le (by omega), cond_true, List.take_append, List.take_of_length_le (by omega), h1, Nat.sub_self, List.take_zero, List.append_nil]
theorem bdC_snoc (l : List BodyT) (j : Nat) (b : BodyT) (h : l[j]? = some b) : bdC (l.take j) ++ b.cells = bdC (l.take (j + 1)) := by
  rw [List.take_add_one, h, Option.toList_some, bdC_app, bdC_one]
theorem bd_bx (b : BodyT) : b.cells = bx b.t b.n b.c b.e [.int .i64 b.u, .int .i64 b.v, .slice .frozen b.l.length (bs b.l)] := rfl
theorem bx_fzs (t n c : Int) (e : List UInt8) (tl : List D) : D.fzs (bx t n c e tl) = bx t n c e (D.fzs tl) := by
  show .int .i64 t :: .int .i64 n :: .int .i64 c :: D.fzs (bs e ++ tl) = _
  rw [bs_frz]; rfl
end Go.Proofs.YtcfefmbbbfdppaaGreatDoor
namespace Go.Proofs.YtcfefmbbbfdppaaGreatDoor
section
variable {α β : Type} {f : α → List β} {s : Nat}
theorem fl_len (hf : ∀ a, (f a).length = s) : ∀ (l : List α), (l.flatMap f).length = l.length * s
  | [] => by simp
  | a :: l => by rw [List.flatMap_cons, List.length_append, hf a, fl_len hf l, List.length_cons, Nat.succ_mul, Nat.add_comm]
theorem fl_get (hs : 0 < s) (hf : ∀ a, (f a).length = s) : ∀ (l : List α) (i : Nat), (l.flatMap f)[i]? = (l[i / s]?).bind fun a => (f a)[i % s]?
  | [], i => by simp
  | a :: l, i => by
    rw [List.flatMap_cons, List.getElem?_append, hf a]
    by_cases h : i < s
    · rw [if_pos h, Nat.div_eq_of_lt h, Nat.mod_eq_of_lt h]; simp
    · rw [if_neg h, fl_get hs hf l (i - s)]
      have e1 : i / s = (i - s) / s + 1 := by
        conv => lhs; rw [show i = (i - s) + s from by omega]
        rw [Nat.add_div_right _ hs]
      have e2 : (i - s) % s = i % s := by
        conv => rhs; rw [show i = (i - s) + s from by omega]
        rw [Nat.add_mod_right]
      rw [e1, e2]; simp
theorem fl_drop (hf : ∀ a, (f a).length = s) : ∀ (l : List α) (n : Nat), (l.flatMap f).drop (n * s) = (l.drop n).flatMap f
  | l, 0 => by simp
  | [], n + 1 => by simp
  | a :: l, n + 1 => by
    rw [List.flatMap_cons, List.drop_succ_cons, List.drop_append, hf a, Nat.succ_mul]
    rw [List.drop_eq_nil_of_le (by rw [hf a]; omega), Nat.add_sub_cancel, fl_drop hf l n]
    simp
theorem fl_take (hf : ∀ a, (f a).length = s) : ∀ (l : List α) (n : Nat), (l.flatMap f).take (n * s) = (l.take n).flatMap f
  | l, 0 => by simp
  | [], n + 1 => by simp
  | a :: l, n + 1 => by
    rw [List.flatMap_cons, List.take_succ_cons, List.flatMap_cons, List.take_append, hf a, Nat.succ_mul]
    rw [List.take_of_length_le (by rw [hf a]; omega), Nat.add_sub_cancel, fl_take hf l n]
theorem fl_at (hf : ∀ a, (f a).length = s) (l : List α) (n : Nat) (a : α) (h : l[n]? = some a) : ((l.flatMap f).drop (n * s)).take s = f a := by
  rw [fl_drop hf]
  have hlt := (List.getElem?_eq_some_iff.1 h).1
  rw [List.drop_eq_getElem_cons hlt, List.flatMap_cons]
  have : l[n] = a := (List.getElem?_eq_some_iff.1 h).2
  rw [this, List.take_append, hf a, Nat.sub_self, List.take_zero, List.append_nil, List.take_of_length_le (by rw [hf a]; exact Nat.le_refl _)]
end
end Go.Proofs.YtcfefmbbbfdppaaGreatDoor
namespace Go.Proofs.YtcfefmbbbfdppaaGreatDoor
open Go.RowKit
set_option linter.unusedVariables false
set_option maxRecDepth 100000
structure QT where
  id : Nat
  val : Nat
  ch : Nat
  at_ : Nat
def QT.cells (q : QT) : List D := [.int .i64 q.id, .int .i64 q.val, .int .i64 q.ch, .int .i64 q.at_]
def qsC (l : List QT) : List D := l.flatMap QT.cells
theorem qs_len (l : List QT) : (qsC l).length = l.length * 4 := fl_len (f := QT.cells) (s := 4) (fun _ => rfl) l
theorem qs_app (a b : List QT) : qsC (a ++ b) = qsC a ++ qsC b := List.flatMap_append
theorem qs_one (q : QT) : qsC [q] = q.cells := by simp [qsC]
theorem qs_cut (l : List QT) (j : Nat) (q : QT) (h : l[j]? = some q) (ze : List D) : cut ⟨true, 4, ze⟩ 0 ((qsC l).drop ((j : Int).toNat * 4)) = some (.agg [.int .i64 q.id, .int .i64 q.val, .int .i64 q.ch, .int .i64 q.at_]) := by
  have hl := qs_len l
  have hlt := (List.getElem?_eq_some_iff.1 h).1
  unfold cut
  simp only [cond_true, Int.toNat_natCast, Nat.zero_add, List.length_drop, hl, List.drop_zero]
  rw [Nat.ble_eq_true_of_le (by omega), cond_true]
  unfold qsC
  rw [fl_at (f := QT.cells) (s := 4) (fun _ => rfl) l j q h]
  rfl
theorem qs_take (l : List QT) (j : Nat) : (qsC l).take (j * 4) = qsC (l.take j) := fl_take (f := QT.cells) (s := 4) (fun _ => rfl) l j
structure GT where
  l0 : Nat
  l1 : Nat
  l2 : Nat
  b0 : Nat
  b1 : Nat
  b2 : Nat
  now : Nat
  past : List QT
  queue : List QT
def gC (l0 l1 l2 b0 b1 b2 now : Nat) (p q : D) : List D := [.int .i64 l0, .int .i64 l1, .int .i64 l2, .int .i64 b0, .int .i64 b1, .int .i64 b2, .int .i64 now, p, q]
def qD (l : List QT) : D := .slice .frozen l.length (qsC l)
def GT.cells (g : GT) : List D := gC g.l0 g.l1 g.l2 g.b0 g.b1 g.b2 g.now (qD g.past) (qD g.queue)
def GT.lim (g : GT) (c : Nat) : Nat := if c = 0 then g.l0 else if c = 1 then g.l1 else g.l2
def GT.big (g : GT) (c : Nat) : Nat := if c = 0 then g.b0 else if c = 1 then g.b1 else g.b2
structure GT.ok (g : GT) : Prop where
  lims : ∀ x ∈ [g.l0, g.l1, g.l2, g.b0, g.b1, g.b2], x ≤ 1073741824
  now : g.now ≤ 1099511627776
  plen : g.past.length ≤ 40
  qlen : g.queue.length ≤ 40
  each : ∀ x ∈ g.past ++ g.queue, x.val ≤ 1073741824 ∧ x.ch < 3 ∧ x.at_ ≤ g.now ∧ x.id < 1099511627776
  ids : ((g.past ++ g.queue).map QT.id).Nodup
def used (ch now : Nat) : List QT → Nat
  | [] => 0
  | x :: r => (if x.ch = ch ∧ now - x.at_ < 24 then x.val else 0) + used ch now r
theorem used_app (ch now : Nat) : ∀ (a b : List QT), used ch now (a ++ b) = used ch now a + used ch now b
  | [], b => by simp [used]
  | x :: a, b => by simp only [List.cons_append, used, used_app ch now a b]; omega
theorem used_snoc (ch now : Nat) (l : List QT) (j : Nat) (q : QT) (h : l[j]? = some q) : used ch now (l.take (j + 1)) = used ch now (l.take j) + (if q.ch = ch ∧ now - q.at_ < 24 then q.val else 0) := by
  rw [List.take_add_one, h, Option.toList_some, used_app]; simp [used]
theorem used_le (ch now m : Nat) : ∀ (l : List QT), (∀ x ∈ l, x.val ≤ m) → used ch now l ≤ l.length * m
  | [], _ => by simp [used]
  | x :: l, h => by
    have h1 := used_le ch now m l fun y hy => h y (List.mem_cons.2 (.inr hy))
    have h2 := h x (List.mem_cons.2 (.inl rfl))
    simp only [used, List.length_cons, Nat.succ_mul]
    split <;> omega
def GT.fits (g : GT) (x : QT) : Bool := decide (x.val < g.big x.ch) && (decide (used x.ch g.now g.past + x.val ≤ g.lim x.ch) && decide (g.past.length < 40))
end Go.Proofs.YtcfefmbbbfdppaaGreatDoor
namespace Go.Proofs.YtcfefmbbbfdppaaGreatDoor
open Go.RowKit
set_option linter.unusedVariables false
section
variable {P : Program} {B : Base} {N : Nat} {Q : Post} {ρ : Slots} {m : Mem} {nx : Nat}
theorem W_join {x y : Code} (J : Slots → Mem → Nat → Prop) (h : W P B N x (thenD (fun ρ' m' nx' => ∃ ρ1 m1 nx1, Weak B N ρ' m' nx' ρ1 m1 nx1 ∧ J ρ1 m1 nx1) Q) ρ m nx) (hj : ∀ ρ m nx, J ρ m nx → W P B N y Q ρ m nx) : W P B N (.seq x y) Q ρ m nx := by
  refine W_seq (W_mono h fun e ρ' m' nx' hq => ?_)
  cases e with
  | normal =>
    obtain ⟨ρ1, m1, nx1, hw, hJ⟩ := hq
    exact W_of_weak hw (hj _ _ _ hJ)
  | _ => exact hq
end
end Go.Proofs.YtcfefmbbbfdppaaGreatDoor
namespace Go.Proofs.YtcfefmbbbfdppaaGreatDoor
open Go.RowKit
set_option linter.unusedVariables false
set_option maxRecDepth 100000
theorem gvalue_ok (n : Nat) (h : n ≤ 1073741824) : Pur Tryz.prog 75 [.int .i64 n] (.bool true) := by
  refine pur_intro Tryz.func75 rfl Tryz.ntmps75 rfl (by first | rfl | assumption | exact bs_cl _) fun B => ?_
  refine zr ?_
  (first | with_reducible refine q_endr ?_); refine rets1 Tryz.results75 (by exact zv) ?_
  rfl
theorem nodup_ne {l : List QT} (h : (l.map QT.id).Nodup) {i j : Nat} {a b : QT} (ha : l[i]? = some a) (hb : l[j]? = some b) (hij : j < i) : a.id ≠ b.id := by
  obtain ⟨h1, h1'⟩ := List.getElem?_eq_some_iff.1 ha
  obtain ⟨h2, h2'⟩ := List.getElem?_eq_some_iff.1 hb
  intro e
  have := List.pairwise_iff_getElem.1 h j i (by rw [List.length_map]; exact h2) (by rw [List.length_map]; exact h1) hij
  rw [List.getElem_map, List.getElem_map, h1', h2'] at this
  exact this e.symm
set_option maxHeartbeats 8000000 in
theorem gCheck_ok (g : GT) (hg : g.ok) : Pur Tryz.prog 38 [.agg g.cells] (.int .i64 0) := by
  obtain ⟨hlim, hnow, hpl, hql, heach, hids⟩ := hg
  have hpz := qs_len g.past
  have hqz := qs_len g.queue
  have hap := qs_app g.past g.queue
  have hal := qs_len (g.past ++ g.queue)
  have hac := qs_cut (g.past ++ g.queue)
  have hnd := @nodup_ne _ hids
  have hnl : (g.past ++ g.queue).length = g.past.length + g.queue.length := List.length_append
  have v0 := gvalue_ok g.l0 (hlim _ (by simp))
  have v1 := gvalue_ok g.l1 (hlim _ (by simp))
  have v2 := gvalue_ok g.l2 (hlim _ (by simp))
  have w0 := gvalue_ok g.b0 (hlim _ (by simp))
  have w1 := gvalue_ok g.b1 (hlim _ (by simp))
  have w2 := gvalue_ok g.b2 (hlim _ (by simp))
  unfold GT.cells gC qD
  obtain ⟨l0, l1, l2, b0, b1, b2, now, past, queue⟩ := g
  dsimp only at *
  have hsl : ∀ i, (qsC (past ++ queue)).take (i * 4) = qsC ((past ++ queue).take i) := qs_take _
  have hcut2 : ∀ i j q, j < i → (past ++ queue)[j]? = some q → ∀ ze, cut ⟨true, 4, ze⟩ 0 ((qsC ((past ++ queue).take i)).drop ((j : Int).toNat * 4)) = some (.agg [.int .i64 q.id, .int .i64 q.val, .int .i64 q.ch, .int .i64 q.at_]) := fun i j q h1 h2 ze => qs_cut _ j q (by rw [List.getElem?_take, if_pos h1, h2]) ze
  have hlen2 : ∀ i, i ≤ (past ++ queue).length → (qsC ((past ++ queue).take i)).length = i * 4 := fun i hi => by rw [qs_len, List.length_take, Nat.min_eq_left hi]
  generalize qsC past = zp at *
  generalize qsC queue = zq at *
  generalize past ++ queue = all at *
  generalize past.length = np at *
  generalize queue.length = nq at *
  obtain ⟨na, hna⟩ : ∃ n, all.length = n := ⟨_, rfl⟩
  rw [hna] at hal hlen2
  have hzz := hap.symm
  have hsum : np + nq = na := by omega
  have h0np : 0 + np = np := Nat.zero_add _
  have hsm : np + nq ≤ 16777216 := by omega
  have hsm0 : 0 + np ≤ 16777216 := by omega
  have hp1 : np * 4 = zp.length := hpz.symm
  have hq1 : nq * 4 = zq.length := hqz.symm
  have ha1 : na * 4 = (qsC all).length := hal.symm
  generalize qsC all = za at *
  refine pur_intro Tryz.func38 rfl Tryz.ntmps38 rfl (by first | rfl | assumption | exact bs_cl _) fun B => ?_
  refine zr ?_
  refine W_loopW (fun n' ρ m nx => ∃ j : Nat, j ≤ 3 ∧ n' = 3 - j ∧ ρ = [(28, .int .i64 (j : Int)), (3, .bool true), (2, .int .i64 0), (1, .ptr 0 0)] ∧ m = [(0, some (.var 31 [.int .i64 l0, .int .i64 l1, .int .i64 l2, .int .i64 b0, .int .i64 b1, .int .i64 b2, .int .i64 now, .slice .frozen np zp, .slice .frozen nq zq]))] ∧ nx = 1)
    ⟨_, _, _, _, (by exact zF (fun l => l)), 0, by omega, rfl, rfl, rfl, rfl⟩ ?_
  rintro n' ρ m nx ⟨j, hj, rfl, rfl, rfl, rfl⟩
  by_cases hlt : j < 3
  · have h3 : j = 0 ∨ j = 1 ∨ j = 2 := by omega
    rcases h3 with rfl | rfl | rfl
    · repeat (first | refine zc ?_ | refine zA ?_ | refine k_call rfl v0 rfl rfl rfl rfl ?_ | refine k_call rfl w0 rfl rfl rfl rfl ?_ | refine zB ?_)
      exact ⟨2, _, _, _, (by exact zF (fun l => l)), by omega, 1, by omega, rfl, rfl, rfl, rfl⟩
    · repeat (first | refine zc ?_ | refine zA ?_ | refine k_call rfl v1 rfl rfl rfl rfl ?_ | refine k_call rfl w1 rfl rfl rfl rfl ?_ | refine zB ?_)
      exact ⟨1, _, _, _, (by exact zF (fun l => l)), by omega, 2, by omega, rfl, rfl, rfl, rfl⟩
    · repeat (first | refine zc ?_ | refine zA ?_ | refine k_call rfl v2 rfl rfl rfl rfl ?_ | refine k_call rfl w2 rfl rfl rfl rfl ?_ | refine zB ?_)
      exact ⟨0, _, _, _, (by exact zF (fun l => l)), by omega, 3, by omega, rfl, rfl, rfl, rfl⟩
  have ej : j = 3 := by omega
  subst ej
  repeat (first | refine zc ?_ | (refine k_append rfl rfl rfl ?_ rfl hp1 rfl hsm0 rfl h0np (List.nil_append _) ?_; (rfl)) | (refine k_append rfl rfl rfl ?_ hp1 hq1 rfl hsm rfl hsum (by exact hzz) ?_; (rfl)) | refine zAB ?_)
  refine W_loopW (fun n' ρ m nx => ∃ j : Nat, j ≤ na ∧ n' = na - j ∧ ρ = [(56, .int .i64 (j : Int)), (55, .int .i64 (na : Int)), (54, .slice .frozen na za), (5, .slice .frozen na za), (3, .bool true), (2, .int .i64 0), (1, .ptr 0 0)] ∧ m = [(0, some (.var 31 [.int .i64 l0, .int .i64 l1, .int .i64 l2, .int .i64 b0, .int .i64 b1, .int .i64 b2, .int .i64 now, .slice .frozen np zp, .slice .frozen nq zq]))] ∧ nx = 1)
    ⟨_, _, _, _, (by exact zF (fun l => l)), 0, Nat.zero_le _, rfl, rfl, rfl, rfl⟩ ?_
  rintro n' ρ m nx ⟨j, hj, rfl, rfl, rfl, rfl⟩
  by_cases hlt : j < na
  · obtain ⟨x, hx⟩ : ∃ x, all[j]? = some x := ⟨_, List.getElem?_eq_getElem (by omega)⟩
    have hc := hac j x hx
    obtain ⟨e1, e2, e3, e4⟩ := heach x (List.mem_of_getElem? hx)
    have vx := gvalue_ok x.val e1
    have hs1 := hsl j
    have hl2 := hlen2 j hj
    have hin := hcut2 j
    have hne : ∀ i y, i < j → all[i]? = some y → x.id ≠ y.id := fun i y h1 h2 => hnd hx h2 h1
    obtain ⟨xi, xv, xc, xa⟩ := x
    dsimp only at *
    generalize qsC (all.take j) = zj at *
    have hk0 : ((j : Int) - 0).toNat = j := by omega
    have hsj : (za.drop ((0 : Int).toNat * 4)).take (j * 4) = zj := hs1
    have hzj : j * 4 = zj.length := hl2.symm
    repeat (first | refine zc ?_ | (refine k_indexAddrs rfl rfl rfl ⟨?_, ?_⟩ ha1 ?_; (omega); (omega)) | refine k_loade rfl rfl (hc _) ?_ | (refine k_slice rfl rfl rfl rfl ⟨?_, ?_, ?_⟩ ha1 hk0 hsj ?_; (omega); (omega); (omega)) | refine zA ?_ | refine k_call rfl vx rfl rfl rfl rfl ?_ | refine zB ?_)
    refine W_loopW (fun n' ρ m nx => ∃ i : Nat, i ≤ j ∧ n' = j - i ∧ ρ = [(93, .int .i64 (i : Int)), (92, .int .i64 (j : Int)), (91, .slice .frozen j zj), (7, .ptr 1 0), (56, .int .i64 (j : Int)), (55, .int .i64 (na : Int)), (54, .slice .frozen na za), (5, .slice .frozen na za), (3, .bool true), (2, .int .i64 0), (1, .ptr 0 0)] ∧ m = [(1, some (.var 132 [.int .i64 xi, .int .i64 xv, .int .i64 xc, .int .i64 xa])), (0, some (.var 31 [.int .i64 l0, .int .i64 l1, .int .i64 l2, .int .i64 b0, .int .i64 b1, .int .i64 b2, .int .i64 now, .slice .frozen np zp, .slice .frozen nq zq]))] ∧ nx = 2)
      ⟨_, _, _, _, (by exact zF (fun l => l)), 0, Nat.zero_le _, rfl, rfl, rfl, rfl⟩ ?_
    rintro n' ρ m nx ⟨i, hi, rfl, rfl, rfl, rfl⟩
    by_cases hli : i < j
    · obtain ⟨y, hy⟩ : ∃ y, all[i]? = some y := ⟨_, List.getElem?_eq_getElem (by omega)⟩
      have hcy := hin i y hli hy
      have hny := hne i y hli hy
      obtain ⟨yi, yv, yc, ya⟩ := y
      dsimp only at *
      repeat (first | refine zc ?_ | (refine k_indexAddrs rfl rfl rfl ⟨?_, ?_⟩ hzj ?_; (omega); (omega)) | refine k_loade rfl rfl (hcy _) ?_ | refine zAB ?_)
      exact ⟨j - (i + 1), _, _, _, (by exact zF (fun l => l)), by omega, i + 1, by omega, rfl, rfl, rfl, rfl⟩
    · have ei : i = j := by omega
      subst ei
      refine zr ?_
      exact ⟨na - (i + 1), _, _, _, (by exact zF (fun l => l)), by omega, i + 1, by omega, rfl, rfl, rfl, rfl⟩
  · have ej : j = na := by omega
    subst ej
    refine zr ?_
    (first | with_reducible refine q_endr ?_); refine rets1 Tryz.results38 (by exact zv) ?_
    rfl
end Go.Proofs.YtcfefmbbbfdppaaGreatDoor
