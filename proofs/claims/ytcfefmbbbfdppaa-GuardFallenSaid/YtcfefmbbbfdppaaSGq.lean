/- The laws' sameBody. Conditions: 32 bytes of emitter. -/
import Derived.Test.YtcfefmbbbfdppaaSGp
import Derived.Test.YtcfefmbbbfdppaaSFlat
import Derived.Test.YtcfefmbbbfdppaaSDMi
import Derived.Test.YtcfefmbbbfdppaaSGb
import Derived.Test.YtcfefmbbbfdppaaSGd
import Derived.Test.YtcfefmbbbfdppaaSDMore
namespace Go.Proofs.Ytcfefmbbbfdppaa
open Go.RowKit Go.Lib Go.IntWalk
set_option linter.unusedVariables false
set_option maxRecDepth 100000
structure SgT where
  w : Nat
  r : Nat
  s : Nat
  o : Nat
structure SgT.ok (x : SgT) : Prop where
  w : x.w ≤ 255
  r : x.r < M256
  s : x.s < M256
  o : x.o ≤ 255
def sgC (w : Int) (r s : Nat) (o : Int) : List D := .int .i64 w :: (ud r ++ (ud s ++ [.int .i64 o]))
def SgT.cells (s : SgT) : List D := sgC s.w s.r s.s s.o
def SgT.out (s : SgT) : List UInt8 := toB 1 s.w ++ b32 s.r ++ b32 s.s ++ toB 1 s.o
theorem SgT.out_len (s : SgT) : s.out.length = 66 := by
  unfold SgT.out b32
  simp only [List.length_append, toB_len]
def sgsC (l : List SgT) : List D := l.flatMap SgT.cells
theorem sgsC_len (l : List SgT) : (sgsC l).length = l.length * 10 := fl_len (f := SgT.cells) (s := 10) (fun _ => rfl) l
theorem sgsC_cut (l : List SgT) (k : Nat) (e : SgT) (h : l[k]? = some e) (ze : List D) : cut ⟨true, 10, ze⟩ 0 ((sgsC l).drop ((k : Int).toNat * 10)) = some (.agg e.cells) := by
  have hlt := (List.getElem?_eq_some_iff.1 h).1
  unfold cut
  simp only [cond_true, Int.toNat_natCast, Nat.zero_add, List.length_drop, sgsC_len, List.drop_zero]
  rw [Nat.ble_eq_true_of_le (by omega), cond_true]
  unfold sgsC
  rw [fl_at (f := SgT.cells) (s := 10) (fun _ => rfl) l k e h]
def ppC (set : Int) (n : Nat) (z : List D) (x : List D) : List D := .int .i64 set :: .slice .frozen n z :: x
structure PapT where
  set : Nat
  sg : List SgT
  b : BodyT
structure PapT.ok (p : PapT) : Prop where
  set : p.set ≤ 4294967295
  n : p.sg.length ≤ 19
  sg : ∀ s ∈ p.sg, s.ok
  b : p.b.ok
def PapT.cells (p : PapT) : List D := ppC p.set p.sg.length (sgsC p.sg) p.b.cells
def sgOut (l : List SgT) : List UInt8 := l.flatMap SgT.out
theorem sgOut_len (l : List SgT) : (sgOut l).length = l.length * 66 := fl_len (f := SgT.out) (s := 66) SgT.out_len l
def PapT.out (p : PapT) : List UInt8 := toB 1 1 ++ toB 4 p.set ++ toB 1 p.sg.length ++ sgOut p.sg ++ p.b.out
section
variable {x : List D} (hx : x.length = 38)
include hx
theorem pp_len (set : Int) (n : Nat) (z : List D) : (ppC set n z x).length = 40 := by unfold ppC; simp [hx]
theorem pp_all (set : Int) (n : Nat) (z : List D) (ze : List D) : cut ⟨true, 40, ze⟩ 0 (ppC set n z x) = some (.agg (ppC set n z x)) := by
  unfold cut
  simp only [cond_true, Nat.zero_add, List.drop_zero]
  rw [pp_len hx, List.take_of_length_le (by rw [pp_len hx]; exact Nat.le_refl _)]
  rfl
theorem pp_b (set : Int) (n : Nat) (z : List D) (ze : List D) : cut ⟨true, 38, ze⟩ 2 (ppC set n z x) = some (.agg x) := by
  unfold cut
  simp only [cond_true]
  rw [pp_len hx]
  have : ((ppC set n z x).drop 2).take 38 = x := by
    unfold ppC
    rw [List.drop_succ_cons, List.drop_succ_cons, List.drop_zero, List.take_of_length_le (by omega)]
  rw [this]; rfl
end
theorem pp_cl (set : Int) (n : Nat) (z x : List D) (h : D.cls x = true) : D.cls (ppC set n z x) = true := by
  show (true && (true && D.cls x)) = true
  rw [h]; rfl
set_option maxHeartbeats 8000000 in
theorem fault_ok (q : PapT) (h : q.ok) : Pur Try.prog 48 [.agg q.cells] (.int .i64 0) := by
  have hb := bCheck_ok q.b h.b
  have hbl := bd_len h.b.e
  have hfz := bd_fz q.b
  have hcl := bd_cl q.b
  have hcx := bd_cls q.b
  have hset := h.set
  have hn := h.n
  have hsg := h.sg
  have hcut := sgsC_cut q.sg
  have hzl : q.sg.length * 10 = (sgsC q.sg).length := by rw [sgsC_len]
  have hall := pp_all hbl q.set q.sg.length (sgsC q.sg)
  have hpb := pp_b hbl q.set q.sg.length (sgsC q.sg)
  have h0 : ∀ ze, cut ⟨false, 1, ze⟩ 0 (ppC q.set q.sg.length (sgsC q.sg) q.b.cells) = some (.int .i64 q.set) := fun _ => rfl
  have h1 : ∀ ze, cut ⟨false, 1, ze⟩ 1 (ppC q.set q.sg.length (sgsC q.sg) q.b.cells) = some (.slice .frozen q.sg.length (sgsC q.sg)) := fun _ => rfl
  have hcp := pp_cl q.set q.sg.length (sgsC q.sg) q.b.cells hcx
  have hpl := pp_len hbl q.set q.sg.length (sgsC q.sg)
  unfold PapT.cells
  generalize ppC q.set q.sg.length (sgsC q.sg) q.b.cells = X at *
  generalize q.b.cells = x at *
  generalize sgsC q.sg = z at *
  obtain ⟨l, hl⟩ : ∃ l, q.sg = l := ⟨_, rfl⟩
  rw [hl] at hn hsg hcut hzl h1
  obtain ⟨L, hL⟩ : ∃ L, l.length = L := ⟨_, rfl⟩
  rw [hL] at hn hzl h1
  refine pur_intro Try.func48 rfl Try.ntmps48 rfl (by first | rfl | assumption | exact bs_cl _) fun B => ?_
  repeat (first | with_reducible (first | refine W_seq ?_ | refine q_then ?_ | refine q_thenx ?_ | refine W_block ?_ | refine q_block ?_ | refine q_blockx ?_ | refine W_ret ?_ | refine W_skip ?_ | refine W_exit ?_) | (with_reducible refine R_nil ?_; try dsimp only [slots0, slots_ud, cells_U, agg_ud, drop0, dropS, takeS, take0, ud_nil, take_ud, take_ud0, drop_ud, drop_ud0, take_udk, D.cells, D.fz, D.fzs, List.take_succ_cons, List.take_zero, List.drop_succ_cons, List.drop_zero, List.cons_append, List.nil_append, List.append_eq, List.length_cons, List.length_nil, Nat.reduceAdd, Nat.reduceMul, Nat.reduceSub, Int.reduceAdd, Int.reduceSub, Int.reduceToNat, Int.reduceNeg, Int.reduceMul]) | refine W_plain rfl ?_ | refine and_chk (by kernel_rfl) ?_ | refine k_load rfl rfl rfl (h0 _) ?_ | refine k_load rfl rfl rfl (h1 _) ?_ | refine k_move rfl rfl ?_ | refine k_assign rfl rfl ?_ | refine k_load rfl rfl rfl rfl ?_ | refine k_alloc rfl ?_ | refine k_box rfl rfl rfl ?_ | refine k_store rfl rfl rfl rfl rfl rfl rfl ?_ | refine k_fieldAddr rfl rfl rfl ?_ | (refine k_append rfl rfl rfl ?_ ?_ ?_ rfl ?_ rfl rfl rfl ?_; (first | rfl | exact trivial | (show 0 < _; omega)); (first | rfl | (simp <;> omega)); (first | rfl | (simp <;> omega)); (omega)) | (refine k_indexAddrs rfl rfl rfl ⟨?_, ?_⟩ rfl ?_; (omega); (omega)) | refine k_loade rfl rfl rfl ?_ | refine k_len rfl rfl ?_ | refine k_pickF rfl rfl rfl ?_ | (refine k_addi rfl rfl rfl ?_ ?_; (omega)) | (refine k_lssT rfl rfl rfl ?_ ?_; (omega)) | (refine k_lssF rfl rfl rfl ?_ ?_; (omega)) | (refine k_gtrF rfl rfl rfl ?_ ?_; (omega)) | refine W_yes rfl ?_ | refine W_no rfl ?_)
  refine W_loop (fun n' ρ m nx => ∃ j : Nat, j ≤ L ∧ n' = L - j ∧ ρ = [(20, .int .i64 (j : Int)), (19, .int .i64 (L : Int)), (18, .slice .frozen L z), (2, .int .i64 0), (1, .ptr 0 0)] ∧ m = [(0, some (.var 70 X))] ∧ nx = 1)
    ⟨_, _, _, _, (by repeat (first | exact trivial | refine ⟨⟨rfl, rfl⟩, ?_⟩ | refine ⟨⟨rfl, bs_bel _ _⟩, ?_⟩ | refine ⟨⟨rfl, arr_bels _ _ _⟩, ?_⟩)), (by exact ⟨⟨rfl, rfl, bels_cls _ _ hcp⟩, trivial⟩), 0, Nat.zero_le _, rfl, rfl, rfl, rfl⟩ ?_
  rintro n' ρ m nx ⟨j, hj, rfl, rfl, rfl, rfl⟩
  by_cases hlt : j < L
  · obtain ⟨e, he⟩ : ∃ e, l[j]? = some e := ⟨_, List.getElem?_eq_getElem (by omega)⟩
    have hc := hcut j e he
    have ho := hsg e (List.mem_of_getElem? he)
    obtain ⟨w, r, s, o⟩ := e
    have hc : ∀ ze, cut ⟨true, 10, ze⟩ 0 (z.drop ((j : Int).toNat * 10)) = some (.agg (sgC w r s o)) := hc
    have b1 : w ≤ 255 := ho.w
    have b2 : o ≤ 255 := ho.o
    repeat (first | with_reducible (first | refine W_seq ?_ | refine q_then ?_ | refine q_thenx ?_ | refine W_block ?_ | refine q_block ?_ | refine q_blockx ?_ | refine W_ret ?_ | refine W_skip ?_ | refine W_exit ?_) | (with_reducible refine R_nil ?_; try dsimp only [slots0, slots_ud, cells_U, agg_ud, drop0, dropS, takeS, take0, ud_nil, take_ud, take_ud0, drop_ud, drop_ud0, take_udk, D.cells, D.fz, D.fzs, List.take_succ_cons, List.take_zero, List.drop_succ_cons, List.drop_zero, List.cons_append, List.nil_append, List.append_eq, List.length_cons, List.length_nil, Nat.reduceAdd, Nat.reduceMul, Nat.reduceSub, Int.reduceAdd, Int.reduceSub, Int.reduceToNat, Int.reduceNeg, Int.reduceMul]) | refine W_plain rfl ?_ | refine and_chk (by kernel_rfl) ?_ | (refine k_indexAddrs rfl rfl rfl ⟨?_, ?_⟩ hzl ?_; (omega); (omega)) | refine k_loade rfl rfl (hc _) ?_ | refine k_move rfl rfl ?_ | refine k_assign rfl rfl ?_ | refine k_load rfl rfl rfl rfl ?_ | refine k_alloc rfl ?_ | refine k_box rfl rfl rfl ?_ | refine k_store rfl rfl rfl rfl rfl rfl rfl ?_ | refine k_fieldAddr rfl rfl rfl ?_ | (refine k_append rfl rfl rfl ?_ ?_ ?_ rfl ?_ rfl rfl rfl ?_; (first | rfl | exact trivial | (show 0 < _; omega)); (first | rfl | (simp <;> omega)); (first | rfl | (simp <;> omega)); (omega)) | (refine k_indexAddrs rfl rfl rfl ⟨?_, ?_⟩ rfl ?_; (omega); (omega)) | refine k_loade rfl rfl rfl ?_ | refine k_len rfl rfl ?_ | refine k_pickF rfl rfl rfl ?_ | (refine k_addi rfl rfl rfl ?_ ?_; (omega)) | (refine k_lssT rfl rfl rfl ?_ ?_; (omega)) | (refine k_lssF rfl rfl rfl ?_ ?_; (omega)) | (refine k_gtrF rfl rfl rfl ?_ ?_; (omega)) | refine W_yes rfl ?_ | refine W_no rfl ?_)
    exact ⟨L - (j + 1), _, _, _, (by repeat (first | exact trivial | refine ⟨⟨rfl, rfl⟩, ?_⟩ | refine ⟨⟨rfl, bs_bel _ _⟩, ?_⟩ | refine ⟨⟨rfl, arr_bels _ _ _⟩, ?_⟩)), (by exact ⟨⟨rfl, rfl, bels_cls _ _ hcp⟩, trivial⟩), by omega, j + 1, by omega, rfl, rfl, rfl, rfl⟩
  · have ej : j = L := by omega
    subst ej
    repeat (first | with_reducible (first | refine W_seq ?_ | refine q_then ?_ | refine q_thenx ?_ | refine W_block ?_ | refine q_block ?_ | refine q_blockx ?_ | refine W_ret ?_ | refine W_skip ?_ | refine W_exit ?_) | (with_reducible refine R_nil ?_; try dsimp only [slots0, slots_ud, cells_U, agg_ud, drop0, dropS, takeS, take0, ud_nil, take_ud, take_ud0, drop_ud, drop_ud0, take_udk, D.cells, D.fz, D.fzs, List.take_succ_cons, List.take_zero, List.drop_succ_cons, List.drop_zero, List.cons_append, List.nil_append, List.append_eq, List.length_cons, List.length_nil, Nat.reduceAdd, Nat.reduceMul, Nat.reduceSub, Int.reduceAdd, Int.reduceSub, Int.reduceToNat, Int.reduceNeg, Int.reduceMul]) | refine W_plain rfl ?_ | refine and_chk (by kernel_rfl) ?_ | refine k_load rfl rfl rfl (hpb _) ?_ | refine k_move rfl rfl ?_ | refine k_assign rfl rfl ?_ | refine k_load rfl rfl rfl rfl ?_ | refine k_alloc rfl ?_ | refine k_box rfl rfl rfl ?_ | refine k_store rfl rfl rfl rfl rfl rfl rfl ?_ | refine k_fieldAddr rfl rfl rfl ?_ | refine k_call rfl hb rfl hfz hcl rfl ?_ | (refine k_append rfl rfl rfl ?_ ?_ ?_ rfl ?_ rfl rfl rfl ?_; (first | rfl | exact trivial | (show 0 < _; omega)); (first | rfl | (simp <;> omega)); (first | rfl | (simp <;> omega)); (omega)) | (refine k_indexAddrs rfl rfl rfl ⟨?_, ?_⟩ rfl ?_; (omega); (omega)) | refine k_loade rfl rfl rfl ?_ | refine k_len rfl rfl ?_ | refine k_pickF rfl rfl rfl ?_ | (refine k_addi rfl rfl rfl ?_ ?_; (omega)) | (refine k_lssT rfl rfl rfl ?_ ?_; (omega)) | (refine k_lssF rfl rfl rfl ?_ ?_; (omega)) | (refine k_gtrF rfl rfl rfl ?_ ?_; (omega)) | refine W_yes rfl ?_ | refine W_no rfl ?_)
    (first | with_reducible refine q_endr ?_); refine rets1 Try.results48 (by first | exact RetV.tmp _ _ rfl | exact RetV.cell _ _ _ _ _ _ _ _ inferInstance rfl rfl rfl) ?_
    rfl
end Go.Proofs.Ytcfefmbbbfdppaa
namespace Go.Proofs.Ytcfefmbbbfdppaa
open Go.RowKit Go.Lib Go.IntWalk
set_option linter.unusedVariables false
set_option maxRecDepth 100000
abbrev SgI := Int × Nat × Nat × Int
def sgI (s : SgI) : List D := sgC s.1 s.2.1 s.2.2.1 s.2.2.2
def sgnE (y : Ey) : SgI × Ey :=
  (((numberE y 1).1, nm (takeE (numberE y 1).2 32).1, nm (takeE (takeE (numberE y 1).2 32).2 32).1, (numberE (takeE (takeE (numberE y 1).2 32).2 32).2 1).1), (numberE (takeE (takeE (numberE y 1).2 32).2 32).2 1).2)
def sgnsE : Nat → Ey → List SgI × Ey
  | 0, y => ([], y)
  | k + 1, y => ((sgnsE k y).1 ++ [(sgnE (sgnsE k y).2).1], (sgnE (sgnsE k y).2).2)
theorem sgnE_le (y : Ey) : (sgnE y).2.1.length ≤ y.1.length := by
  unfold sgnE
  exact Nat.le_trans (numberE_le _ _) (Nat.le_trans (takeE_le _ _) (Nat.le_trans (takeE_le _ _) (numberE_le _ _)))
theorem sgnsE_le : ∀ (k : Nat) (y : Ey), (sgnsE k y).2.1.length ≤ y.1.length
  | 0, y => Nat.le_refl _
  | k + 1, y => Nat.le_trans (sgnE_le _) (sgnsE_le k y)
theorem sgnsE_len : ∀ (k : Nat) (y : Ey), (sgnsE k y).1.length = k
  | 0, y => rfl
  | k + 1, y => by simp [sgnsE, sgnsE_len k y]
def sgsI (l : List SgI) : List D := l.flatMap sgI
theorem sgsI_len (l : List SgI) : (sgsI l).length = l.length * 10 := fl_len (f := sgI) (s := 10) (fun _ => rfl) l
abbrev bx0 : List D := bx 0 0 0 (List.replicate 32 0) [.int .i64 0, .int .i64 0, .slice .nil 0 []]
abbrev pp0 : List D := .int .i64 0 :: .slice .nil 0 [] :: bx0
theorem wh_put {x : List D} (hx : x.length = 38) (y : List D) (hy : y.length = 38) (a c : D) : splice 2 x (a :: c :: y) = some (a :: c :: x) := by
  unfold splice
  rw [Nat.ble_eq_true_of_le (by simp [hx, hy]), cond_true]
  simp only [List.take_succ_cons, List.take_zero]
  rw [hx, List.drop_of_length_le (by simp [hy])]
  simp
theorem wh_all {x : List D} (hx : x.length = 38) (a c : D) (ze : List D) : cut ⟨true, 40, ze⟩ 0 (a :: c :: x) = some (.agg (a :: c :: x)) := by
  unfold cut
  simp only [cond_true, Nat.zero_add, List.drop_zero]
  rw [List.take_of_length_le (by simp [hx]), show (a :: c :: x).length = 40 from by simp [hx]]
  rfl
theorem wh_lay {x : List D} (hx : x.length = 38) (a c : D) (cs : List D) (hc : cs.length = 40) : splice 0 (a :: c :: x) cs = some (a :: c :: x) := by
  unfold splice
  rw [Nat.ble_eq_true_of_le (by simp [hx, hc]), cond_true, Nat.zero_add, List.drop_of_length_le (by simp [hx, hc])]
  simp
set_option maxHeartbeats 16000000 in
theorem Decode_walk (b : List UInt8) (hb : b.length ≤ 140737488351232) (v set : Int) (y1 y2 y3 y4 y5 : Ey) (n : Nat) (l : List SgI) (bd : BodyI) (e1 : numberE (b, true) 1 = (v, y1)) (e2 : numberE y1 4 = (set, y2)) (e3 : numberE y2 1 = ((n : Int), y3)) (hv : y1.2 = true → v = 1) (hn : n ≤ 19)
    (e4 : sgnsE n y3 = (l, y4)) (e5 : bodyE y4 = (bd, y5)) (R : D) (hR : (y5.2 = false ∧ R = .tup [.agg pp0, .int .i64 4]) ∨ (y5.2 = true ∧ R = .tup [.agg (ppC set n (sgsI l) bd.cells), .int .i64 0] ∧ Pur Try.prog 48 [.agg (ppC set n (sgsI l) bd.cells)] (.int .i64 0)) ∨ (y5.2 = true ∧ ∃ e : Int, e ≠ 0 ∧ R = .tup [.agg pp0, .int .i64 e] ∧ Pur Try.prog 48 [.agg (ppC set n (sgsI l) bd.cells)] (.int .i64 e))) :
    Pur Try.prog 24 [.slice .frozen b.length (bs b)] R := by
  have c1 := eNumber_ok (b, true) 1 (by decide) (by simp; omega)
  have l1 := numberE_le (b, true) 1
  rw [e1] at c1 l1
  dsimp only at c1 l1
  have c2 := eNumber_ok y1 4 (by decide) (by omega)
  have l2 := numberE_le y1 4
  rw [e2] at c2 l2
  dsimp only at c2 l2
  have c3 := eNumber_ok y2 1 (by decide) (by omega)
  have l3 := numberE_le y2 1
  rw [e3] at c3 l3
  dsimp only at c3 l3
  have l4 := sgnsE_le n y3
  rw [e4] at l4
  dsimp only at l4
  have c5 := eBody_ok y4 (by omega)
  rw [e5] at c5
  dsimp only at c5
  have hxl : bd.cells.length = 38 := by
    have : bd.e.length = 32 := by
      have h32 : (bodyE y4).1.e.length = 32 := by unfold bodyE; exact takeE_len _ _
      rw [e5] at h32; exact h32
    exact bx_len this _ rfl
  have hxc : D.cls bd.cells = true := BodyI.cl bd
  have hxf : D.fzs bd.cells = bd.cells := by
    show _ :: _ :: _ :: D.fzs (bs bd.e ++ _) = _
    rw [bs_frz]; rfl
  have hcl : D.cl R = true := by
    rcases hR with ⟨_, rfl⟩ | ⟨_, rfl, _⟩ | ⟨_, e, _, rfl, _⟩
    · rfl
    · show (D.cls (ppC set n (sgsI l) bd.cells) && true) = true
      rw [pp_cl _ _ _ _ hxc]; rfl
    · rfl
  unfold eyM eyC at c1 c2 c3 c5
  dsimp only at c1
  have hlast : sgnsE n y3 = (l, y4) := e4
  have hy3 : y3.1.length ≤ 140737488351232 := by omega
  obtain ⟨zl3, hzl3⟩ : ∃ z, bs y3.1 = z := ⟨_, rfl⟩
  obtain ⟨L3, hL3⟩ : ∃ z, y3.1.length = z := ⟨_, rfl⟩
  obtain ⟨k3, hk3⟩ : ∃ z, y3.2 = z := ⟨_, rfl⟩
  rw [hzl3, hL3, hk3] at c3
  obtain ⟨zl4, hzl4⟩ : ∃ z, bs y4.1 = z := ⟨_, rfl⟩
  obtain ⟨L4, hL4⟩ : ∃ z, y4.1.length = z := ⟨_, rfl⟩
  obtain ⟨k4, hk4⟩ : ∃ z, y4.2 = z := ⟨_, rfl⟩
  rw [hzl4, hL4, hk4] at c5
  generalize bs b = z0 at *
  generalize b.length = L0 at *
  generalize bs y1.1 = z1 at *
  generalize bs y2.1 = z2 at *
  generalize bs y5.1 = z5 at *
  generalize y5.1.length = L5 at *
  generalize y5.2 = k5 at *
  obtain ⟨q1, k1⟩ := y1
  obtain ⟨q2, k2⟩ := y2
  dsimp only at *
  have hv1 : k1 = false ∨ (k1 = true ∧ v = 1) := by
    cases k1
    · exact .inl rfl
    · exact .inr ⟨rfl, hv rfl⟩
  clear hv e1 e2 e3 e4 e5 l1 l2 l3 l4
  generalize q1.length = L1 at *
  generalize q2.length = L2 at *
  have hbe : ∀ p : Nat → Bool, D.lall p (.agg bd.cells) = true := fun p => (D.cl_ren (fun l => l) p _ (BodyI.cl bd)).2
  have hbr : ∀ f : Nat → Nat, D.ren f (.agg bd.cells) = .agg bd.cells := fun f => (D.cl_ren f (fun _ => true) _ (BodyI.cl bd)).1
  generalize bd.cells = xb at *
  have hsp : ∀ a c : D, splice 2 xb (a :: c :: bx0) = some (a :: c :: xb) := fun a c => by
    have := wh_put hxl bx0 rfl a c
    exact this
  have hwa : ∀ (a c : D) ze, cut ⟨true, 40, ze⟩ 0 (a :: c :: xb) = some (.agg (a :: c :: xb)) := fun a c ze => wh_all hxl a c ze
  have hwl : ∀ a c : D, (D.agg (a :: c :: xb)).cells.length = 40 := fun a c => by show (a :: c :: xb).length = 40; simp [hxl]
  have hws : ∀ (a c : D) (cs : List D), cs.length = 40 → splice 0 (a :: c :: xb) cs = some (a :: c :: xb) := fun a c cs hc => wh_lay hxl a c cs hc
  have hfz : ∀ (k : Nat) (m : Nat) (zz : List D), D.fzs [.agg (.int .i64 set :: .slice (.own k) m zz :: xb)] = [.agg (ppC set m zz xb)] := fun k m zz => by
    show [D.agg (_ :: _ :: D.fzs xb)] = _
    rw [hxf]; rfl
  have hcz : ∀ (m : Nat) (zz : List D), D.cls [.agg (ppC set m zz xb)] = true := fun m zz => by
    show (D.cls (ppC set m zz xb) && true) = true
    rw [pp_cl _ _ _ _ hxc]; rfl
  refine pur_intro Try.func24 rfl Try.ntmps24 rfl hcl fun B => ?_
  repeat (first | refine W_join (x := .seq _ (.cond (.tmp 22) _ _)) (fun ρ m nx => ρ = [(4, .ptr 1 0), (3, .int .i64 0), (2, .ptr 0 0)] ∧ m = [(1, some (.var 98 [.slice .frozen L1 z1, .bool k1])), (0, some (.var 70 pp0))] ∧ nx = 2) ?_ ?_ | with_reducible (first | refine W_seq ?_ | refine q_then ?_ | refine q_thenr ?_ | refine q_thenx ?_ | refine W_block ?_ | refine q_block ?_ | refine q_blockx ?_ | refine W_ret ?_ | refine W_skip ?_ | refine W_exit ?_) | (with_reducible refine R_nil ?_; try dsimp only [slots0, slots_ud, cells_U, agg_ud, drop0, dropS, takeS, take0, ud_nil, take_ud, take_ud0, drop_ud, drop_ud0, take_udk, D.cells, D.fz, D.fzs, List.take_succ_cons, List.take_zero, List.drop_succ_cons, List.drop_zero, List.cons_append, List.nil_append, List.append_eq, List.length_cons, List.length_nil, Nat.reduceAdd, Nat.reduceMul, Nat.reduceSub, Int.reduceAdd, Int.reduceSub, Int.reduceToNat, Int.reduceNeg, Int.reduceMul]) | refine W_plain rfl ?_ | refine and_chk (by kernel_rfl) ?_ | refine k_move rfl rfl ?_ | refine k_assign rfl rfl ?_ | refine k_load rfl rfl rfl rfl ?_ | refine k_alloc rfl ?_ | refine k_box rfl rfl rfl ?_ | refine k_store rfl rfl rfl rfl rfl rfl rfl ?_ | refine k_fieldAddr rfl rfl rfl ?_ | refine k_build rfl rfl rfl ?_ | refine k_callf (fun l => l + 1) [0] (2) rfl (c1) rfl (by first | exact Ups.refl _ | assumption | ((repeat refine Ups.cons (by first | exact Up.refl _ | exact Up.nil _ | exact Up.fz _ _ _) ?_); exact Ups.nil)) (rfl) (by (repeat (first | refine ⟨⟨rfl, _, rfl, (by first | exact Ups.refl _ | assumption | ((repeat refine Ups.cons (by first | exact Up.refl _ | exact Up.nil _ | exact Up.fz _ _ _) ?_); exact Ups.nil)), rfl⟩, ?_⟩ | refine ⟨⟨rfl, rfl⟩, ?_⟩)); exact trivial) rfl rfl rfl rfl (rfl) (rfl) rfl rfl rfl rfl ?_ | (refine k_append rfl rfl rfl ?_ ?_ ?_ rfl ?_ rfl rfl rfl ?_; (first | rfl | exact trivial | (show 0 < _; omega)); (first | rfl | (simp <;> omega)); (first | rfl | (simp <;> omega)); (omega)) | refine k_buildSlice (cs := []) rfl rfl rfl rfl rfl rfl rfl ?_ | refine k_buildSlice rfl rfl rfl rfl rfl rfl rfl ?_ | refine k_nilCheck rfl rfl rfl ?_ | refine k_pickT rfl rfl rfl ?_ | refine k_pickF rfl rfl rfl ?_ | (refine k_addi rfl rfl rfl ?_ ?_; (omega)) | refine k_not rfl rfl rfl ?_ | (refine k_lssT rfl rfl rfl ?_ ?_; (omega)) | (refine k_lssF rfl rfl rfl ?_ ?_; (omega)) | (refine k_gtrF rfl rfl rfl ?_ ?_; (omega)) | (refine k_neqT rfl rfl rfl ?_ ?_; (omega)) | (refine k_neqF rfl rfl rfl ?_ ?_; (omega)) | refine k_skip rfl ?_ | refine W_yes rfl ?_ | refine W_no rfl ?_)
  · rcases hv1 with rfl | ⟨rfl, rfl⟩
    · repeat (first | with_reducible (first | refine W_seq ?_ | refine q_then ?_ | refine q_thenr ?_ | refine q_thenx ?_ | refine W_block ?_ | refine q_block ?_ | refine q_blockx ?_ | refine W_ret ?_ | refine W_skip ?_ | refine W_exit ?_) | (with_reducible refine R_nil ?_; try dsimp only [slots0, slots_ud, cells_U, agg_ud, drop0, dropS, takeS, take0, ud_nil, take_ud, take_ud0, drop_ud, drop_ud0, take_udk, D.cells, D.fz, D.fzs, List.take_succ_cons, List.take_zero, List.drop_succ_cons, List.drop_zero, List.cons_append, List.nil_append, List.append_eq, List.length_cons, List.length_nil, Nat.reduceAdd, Nat.reduceMul, Nat.reduceSub, Int.reduceAdd, Int.reduceSub, Int.reduceToNat, Int.reduceNeg, Int.reduceMul]) | refine W_plain rfl ?_ | refine and_chk (by kernel_rfl) ?_ | refine k_move rfl rfl ?_ | refine k_assign rfl rfl ?_ | refine k_load rfl rfl rfl rfl ?_ | refine k_alloc rfl ?_ | refine k_box rfl rfl rfl ?_ | refine k_store rfl rfl rfl rfl rfl rfl rfl ?_ | refine k_fieldAddr rfl rfl rfl ?_ | refine k_build rfl rfl rfl ?_ | (refine k_append rfl rfl rfl ?_ ?_ ?_ rfl ?_ rfl rfl rfl ?_; (first | rfl | exact trivial | (show 0 < _; omega)); (first | rfl | (simp <;> omega)); (first | rfl | (simp <;> omega)); (omega)) | refine k_buildSlice (cs := []) rfl rfl rfl rfl rfl rfl rfl ?_ | refine k_buildSlice rfl rfl rfl rfl rfl rfl rfl ?_ | refine k_nilCheck rfl rfl rfl ?_ | refine k_pickT rfl rfl rfl ?_ | refine k_pickF rfl rfl rfl ?_ | (refine k_addi rfl rfl rfl ?_ ?_; (omega)) | refine k_not rfl rfl rfl ?_ | (refine k_lssT rfl rfl rfl ?_ ?_; (omega)) | (refine k_lssF rfl rfl rfl ?_ ?_; (omega)) | (refine k_gtrF rfl rfl rfl ?_ ?_; (omega)) | (refine k_neqT rfl rfl rfl ?_ ?_; (omega)) | (refine k_neqF rfl rfl rfl ?_ ?_; (omega)) | refine k_skip rfl ?_ | refine W_yes rfl ?_ | refine W_no rfl ?_)
      exact ⟨_, _, _, weak_sub (by repeat (first | exact trivial | refine ⟨⟨rfl, rfl⟩, ?_⟩ | refine ⟨⟨rfl, bs_bel _ _⟩, ?_⟩ | refine ⟨⟨rfl, arr_bels _ _ _⟩, ?_⟩)) (by repeat (first | exact trivial | refine ⟨⟨rfl, rfl, rfl⟩, ?_⟩ | refine ⟨⟨rfl, rfl, bs_bels _ _⟩, ?_⟩ | refine ⟨⟨rfl, rfl, arr_bels _ _ _⟩, ?_⟩)) (Nat.zero_le _), rfl, rfl, rfl⟩
    · repeat (first | with_reducible (first | refine W_seq ?_ | refine q_then ?_ | refine q_thenr ?_ | refine q_thenx ?_ | refine W_block ?_ | refine q_block ?_ | refine q_blockx ?_ | refine W_ret ?_ | refine W_skip ?_ | refine W_exit ?_) | (with_reducible refine R_nil ?_; try dsimp only [slots0, slots_ud, cells_U, agg_ud, drop0, dropS, takeS, take0, ud_nil, take_ud, take_ud0, drop_ud, drop_ud0, take_udk, D.cells, D.fz, D.fzs, List.take_succ_cons, List.take_zero, List.drop_succ_cons, List.drop_zero, List.cons_append, List.nil_append, List.append_eq, List.length_cons, List.length_nil, Nat.reduceAdd, Nat.reduceMul, Nat.reduceSub, Int.reduceAdd, Int.reduceSub, Int.reduceToNat, Int.reduceNeg, Int.reduceMul]) | refine W_plain rfl ?_ | refine and_chk (by kernel_rfl) ?_ | refine k_move rfl rfl ?_ | refine k_assign rfl rfl ?_ | refine k_load rfl rfl rfl rfl ?_ | refine k_alloc rfl ?_ | refine k_box rfl rfl rfl ?_ | refine k_store rfl rfl rfl rfl rfl rfl rfl ?_ | refine k_fieldAddr rfl rfl rfl ?_ | refine k_build rfl rfl rfl ?_ | (refine k_append rfl rfl rfl ?_ ?_ ?_ rfl ?_ rfl rfl rfl ?_; (first | rfl | exact trivial | (show 0 < _; omega)); (first | rfl | (simp <;> omega)); (first | rfl | (simp <;> omega)); (omega)) | refine k_buildSlice (cs := []) rfl rfl rfl rfl rfl rfl rfl ?_ | refine k_buildSlice rfl rfl rfl rfl rfl rfl rfl ?_ | refine k_nilCheck rfl rfl rfl ?_ | refine k_pickT rfl rfl rfl ?_ | refine k_pickF rfl rfl rfl ?_ | (refine k_addi rfl rfl rfl ?_ ?_; (omega)) | refine k_not rfl rfl rfl ?_ | (refine k_lssT rfl rfl rfl ?_ ?_; (omega)) | (refine k_lssF rfl rfl rfl ?_ ?_; (omega)) | (refine k_gtrF rfl rfl rfl ?_ ?_; (omega)) | (refine k_neqT rfl rfl rfl ?_ ?_; (omega)) | (refine k_neqF rfl rfl rfl ?_ ?_; (omega)) | refine k_skip rfl ?_ | refine W_yes rfl ?_ | refine W_no rfl ?_)
      exact ⟨_, _, _, weak_sub (by repeat (first | exact trivial | refine ⟨⟨rfl, rfl⟩, ?_⟩ | refine ⟨⟨rfl, bs_bel _ _⟩, ?_⟩ | refine ⟨⟨rfl, arr_bels _ _ _⟩, ?_⟩)) (by repeat (first | exact trivial | refine ⟨⟨rfl, rfl, rfl⟩, ?_⟩ | refine ⟨⟨rfl, rfl, bs_bels _ _⟩, ?_⟩ | refine ⟨⟨rfl, rfl, arr_bels _ _ _⟩, ?_⟩)) (Nat.zero_le _), rfl, rfl, rfl⟩
  rintro ρ m nx ⟨rfl, rfl, rfl⟩
  clear c1 hv1
  repeat (first | with_reducible (first | refine W_seq ?_ | refine q_then ?_ | refine q_thenr ?_ | refine q_thenx ?_ | refine W_block ?_ | refine q_block ?_ | refine q_blockx ?_ | refine W_ret ?_ | refine W_skip ?_ | refine W_exit ?_) | (with_reducible refine R_nil ?_; try dsimp only [slots0, slots_ud, cells_U, agg_ud, drop0, dropS, takeS, take0, ud_nil, take_ud, take_ud0, drop_ud, drop_ud0, take_udk, D.cells, D.fz, D.fzs, List.take_succ_cons, List.take_zero, List.drop_succ_cons, List.drop_zero, List.cons_append, List.nil_append, List.append_eq, List.length_cons, List.length_nil, Nat.reduceAdd, Nat.reduceMul, Nat.reduceSub, Int.reduceAdd, Int.reduceSub, Int.reduceToNat, Int.reduceNeg, Int.reduceMul]) | refine W_plain rfl ?_ | refine and_chk (by kernel_rfl) ?_ | refine k_move rfl rfl ?_ | refine k_assign rfl rfl ?_ | refine k_load rfl rfl rfl rfl ?_ | refine k_alloc rfl ?_ | refine k_box rfl rfl rfl ?_ | refine k_store rfl rfl rfl rfl rfl rfl rfl ?_ | refine k_fieldAddr rfl rfl rfl ?_ | refine k_build rfl rfl rfl ?_ | refine k_callf (fun l => l + 1) [0] (3) rfl (c2) rfl (by first | exact Ups.refl _ | assumption | ((repeat refine Ups.cons (by first | exact Up.refl _ | exact Up.nil _ | exact Up.fz _ _ _) ?_); exact Ups.nil)) (rfl) (by (repeat (first | refine ⟨⟨rfl, _, rfl, (by first | exact Ups.refl _ | assumption | ((repeat refine Ups.cons (by first | exact Up.refl _ | exact Up.nil _ | exact Up.fz _ _ _) ?_); exact Ups.nil)), rfl⟩, ?_⟩ | refine ⟨⟨rfl, rfl⟩, ?_⟩)); exact trivial) rfl rfl rfl rfl (rfl) (rfl) rfl rfl rfl rfl ?_ | (refine k_append rfl rfl rfl ?_ ?_ ?_ rfl ?_ rfl rfl rfl ?_; (first | rfl | exact trivial | (show 0 < _; omega)); (first | rfl | (simp <;> omega)); (first | rfl | (simp <;> omega)); (omega)) | refine k_buildSlice (cs := []) rfl rfl rfl rfl rfl rfl rfl ?_ | refine k_buildSlice rfl rfl rfl rfl rfl rfl rfl ?_ | refine k_nilCheck rfl rfl rfl ?_ | refine k_pickT rfl rfl rfl ?_ | refine k_pickF rfl rfl rfl ?_ | (refine k_addi rfl rfl rfl ?_ ?_; (omega)) | refine k_not rfl rfl rfl ?_ | (refine k_lssT rfl rfl rfl ?_ ?_; (omega)) | (refine k_lssF rfl rfl rfl ?_ ?_; (omega)) | (refine k_gtrF rfl rfl rfl ?_ ?_; (omega)) | (refine k_neqT rfl rfl rfl ?_ ?_; (omega)) | (refine k_neqF rfl rfl rfl ?_ ?_; (omega)) | refine k_skip rfl ?_ | refine W_yes rfl ?_ | refine W_no rfl ?_)
  repeat (first | refine W_join (x := .seq _ (.cond (.tmp 36) _ _)) (fun ρ m nx => ρ = [(7, .int .i64 (n : Int)), (6, .ptr 2 0), (4, .ptr 1 0), (3, .int .i64 0), (2, .ptr 0 0)] ∧ m = [(2, some (.var 70 (.int .i64 set :: .slice .nil 0 [] :: bx0))), (1, some (.var 98 [.slice .frozen L3 zl3, .bool k3])), (0, some (.var 70 pp0))] ∧ nx = 3) ?_ ?_ | with_reducible (first | refine W_seq ?_ | refine q_then ?_ | refine q_thenr ?_ | refine q_thenx ?_ | refine W_block ?_ | refine q_block ?_ | refine q_blockx ?_ | refine W_ret ?_ | refine W_skip ?_ | refine W_exit ?_) | (with_reducible refine R_nil ?_; try dsimp only [slots0, slots_ud, cells_U, agg_ud, drop0, dropS, takeS, take0, ud_nil, take_ud, take_ud0, drop_ud, drop_ud0, take_udk, D.cells, D.fz, D.fzs, List.take_succ_cons, List.take_zero, List.drop_succ_cons, List.drop_zero, List.cons_append, List.nil_append, List.append_eq, List.length_cons, List.length_nil, Nat.reduceAdd, Nat.reduceMul, Nat.reduceSub, Int.reduceAdd, Int.reduceSub, Int.reduceToNat, Int.reduceNeg, Int.reduceMul]) | refine W_plain rfl ?_ | refine and_chk (by kernel_rfl) ?_ | refine k_move rfl rfl ?_ | refine k_assign rfl rfl ?_ | refine k_load rfl rfl rfl rfl ?_ | refine k_alloc rfl ?_ | refine k_box rfl rfl rfl ?_ | refine k_store rfl rfl rfl rfl rfl rfl rfl ?_ | refine k_fieldAddr rfl rfl rfl ?_ | refine k_build rfl rfl rfl ?_ | refine k_callf (fun l => l + 1) [0] (3) rfl (c3) rfl (by first | exact Ups.refl _ | assumption | ((repeat refine Ups.cons (by first | exact Up.refl _ | exact Up.nil _ | exact Up.fz _ _ _) ?_); exact Ups.nil)) (rfl) (by (repeat (first | refine ⟨⟨rfl, _, rfl, (by first | exact Ups.refl _ | assumption | ((repeat refine Ups.cons (by first | exact Up.refl _ | exact Up.nil _ | exact Up.fz _ _ _) ?_); exact Ups.nil)), rfl⟩, ?_⟩ | refine ⟨⟨rfl, rfl⟩, ?_⟩)); exact trivial) rfl rfl rfl rfl (rfl) (rfl) rfl rfl rfl rfl ?_ | (refine k_append rfl rfl rfl ?_ ?_ ?_ rfl ?_ rfl rfl rfl ?_; (first | rfl | exact trivial | (show 0 < _; omega)); (first | rfl | (simp <;> omega)); (first | rfl | (simp <;> omega)); (omega)) | refine k_buildSlice (cs := []) rfl rfl rfl rfl rfl rfl rfl ?_ | refine k_buildSlice rfl rfl rfl rfl rfl rfl rfl ?_ | refine k_nilCheck rfl rfl rfl ?_ | refine k_pickT rfl rfl rfl ?_ | refine k_pickF rfl rfl rfl ?_ | (refine k_addi rfl rfl rfl ?_ ?_; (omega)) | refine k_not rfl rfl rfl ?_ | (refine k_lssT rfl rfl rfl ?_ ?_; (omega)) | (refine k_lssF rfl rfl rfl ?_ ?_; (omega)) | (refine k_gtrF rfl rfl rfl ?_ ?_; (omega)) | (refine k_neqT rfl rfl rfl ?_ ?_; (omega)) | (refine k_neqF rfl rfl rfl ?_ ?_; (omega)) | refine k_skip rfl ?_ | refine W_yes rfl ?_ | refine W_no rfl ?_)
  · cases k3
    · repeat (first | with_reducible (first | refine W_seq ?_ | refine q_then ?_ | refine q_thenr ?_ | refine q_thenx ?_ | refine W_block ?_ | refine q_block ?_ | refine q_blockx ?_ | refine W_ret ?_ | refine W_skip ?_ | refine W_exit ?_) | (with_reducible refine R_nil ?_; try dsimp only [slots0, slots_ud, cells_U, agg_ud, drop0, dropS, takeS, take0, ud_nil, take_ud, take_ud0, drop_ud, drop_ud0, take_udk, D.cells, D.fz, D.fzs, List.take_succ_cons, List.take_zero, List.drop_succ_cons, List.drop_zero, List.cons_append, List.nil_append, List.append_eq, List.length_cons, List.length_nil, Nat.reduceAdd, Nat.reduceMul, Nat.reduceSub, Int.reduceAdd, Int.reduceSub, Int.reduceToNat, Int.reduceNeg, Int.reduceMul]) | refine W_plain rfl ?_ | refine and_chk (by kernel_rfl) ?_ | refine k_move rfl rfl ?_ | refine k_assign rfl rfl ?_ | refine k_load rfl rfl rfl rfl ?_ | refine k_alloc rfl ?_ | refine k_box rfl rfl rfl ?_ | refine k_store rfl rfl rfl rfl rfl rfl rfl ?_ | refine k_fieldAddr rfl rfl rfl ?_ | refine k_build rfl rfl rfl ?_ | (refine k_append rfl rfl rfl ?_ ?_ ?_ rfl ?_ rfl rfl rfl ?_; (first | rfl | exact trivial | (show 0 < _; omega)); (first | rfl | (simp <;> omega)); (first | rfl | (simp <;> omega)); (omega)) | refine k_buildSlice (cs := []) rfl rfl rfl rfl rfl rfl rfl ?_ | refine k_buildSlice rfl rfl rfl rfl rfl rfl rfl ?_ | refine k_nilCheck rfl rfl rfl ?_ | refine k_pickT rfl rfl rfl ?_ | refine k_pickF rfl rfl rfl ?_ | (refine k_addi rfl rfl rfl ?_ ?_; (omega)) | refine k_not rfl rfl rfl ?_ | (refine k_lssT rfl rfl rfl ?_ ?_; (omega)) | (refine k_lssF rfl rfl rfl ?_ ?_; (omega)) | (refine k_gtrF rfl rfl rfl ?_ ?_; (omega)) | (refine k_neqT rfl rfl rfl ?_ ?_; (omega)) | (refine k_neqF rfl rfl rfl ?_ ?_; (omega)) | refine k_skip rfl ?_ | refine W_yes rfl ?_ | refine W_no rfl ?_)
      exact ⟨_, _, _, weak_sub (by repeat (first | exact trivial | refine ⟨⟨rfl, rfl⟩, ?_⟩ | refine ⟨⟨rfl, bs_bel _ _⟩, ?_⟩ | refine ⟨⟨rfl, arr_bels _ _ _⟩, ?_⟩)) (by repeat (first | exact trivial | refine ⟨⟨rfl, rfl, rfl⟩, ?_⟩ | refine ⟨⟨rfl, rfl, bs_bels _ _⟩, ?_⟩ | refine ⟨⟨rfl, rfl, arr_bels _ _ _⟩, ?_⟩)) (Nat.zero_le _), rfl, rfl, rfl⟩
    · repeat (first | with_reducible (first | refine W_seq ?_ | refine q_then ?_ | refine q_thenr ?_ | refine q_thenx ?_ | refine W_block ?_ | refine q_block ?_ | refine q_blockx ?_ | refine W_ret ?_ | refine W_skip ?_ | refine W_exit ?_) | (with_reducible refine R_nil ?_; try dsimp only [slots0, slots_ud, cells_U, agg_ud, drop0, dropS, takeS, take0, ud_nil, take_ud, take_ud0, drop_ud, drop_ud0, take_udk, D.cells, D.fz, D.fzs, List.take_succ_cons, List.take_zero, List.drop_succ_cons, List.drop_zero, List.cons_append, List.nil_append, List.append_eq, List.length_cons, List.length_nil, Nat.reduceAdd, Nat.reduceMul, Nat.reduceSub, Int.reduceAdd, Int.reduceSub, Int.reduceToNat, Int.reduceNeg, Int.reduceMul]) | refine W_plain rfl ?_ | refine and_chk (by kernel_rfl) ?_ | refine k_move rfl rfl ?_ | refine k_assign rfl rfl ?_ | refine k_load rfl rfl rfl rfl ?_ | refine k_alloc rfl ?_ | refine k_box rfl rfl rfl ?_ | refine k_store rfl rfl rfl rfl rfl rfl rfl ?_ | refine k_fieldAddr rfl rfl rfl ?_ | refine k_build rfl rfl rfl ?_ | (refine k_append rfl rfl rfl ?_ ?_ ?_ rfl ?_ rfl rfl rfl ?_; (first | rfl | exact trivial | (show 0 < _; omega)); (first | rfl | (simp <;> omega)); (first | rfl | (simp <;> omega)); (omega)) | refine k_buildSlice (cs := []) rfl rfl rfl rfl rfl rfl rfl ?_ | refine k_buildSlice rfl rfl rfl rfl rfl rfl rfl ?_ | refine k_nilCheck rfl rfl rfl ?_ | refine k_pickT rfl rfl rfl ?_ | refine k_pickF rfl rfl rfl ?_ | (refine k_addi rfl rfl rfl ?_ ?_; (omega)) | refine k_not rfl rfl rfl ?_ | (refine k_lssT rfl rfl rfl ?_ ?_; (omega)) | (refine k_lssF rfl rfl rfl ?_ ?_; (omega)) | (refine k_gtrF rfl rfl rfl ?_ ?_; (omega)) | (refine k_neqT rfl rfl rfl ?_ ?_; (omega)) | (refine k_neqF rfl rfl rfl ?_ ?_; (omega)) | refine k_skip rfl ?_ | refine W_yes rfl ?_ | refine W_no rfl ?_)
      exact ⟨_, _, _, weak_sub (by repeat (first | exact trivial | refine ⟨⟨rfl, rfl⟩, ?_⟩ | refine ⟨⟨rfl, bs_bel _ _⟩, ?_⟩ | refine ⟨⟨rfl, arr_bels _ _ _⟩, ?_⟩)) (by repeat (first | exact trivial | refine ⟨⟨rfl, rfl, rfl⟩, ?_⟩ | refine ⟨⟨rfl, rfl, bs_bels _ _⟩, ?_⟩ | refine ⟨⟨rfl, rfl, arr_bels _ _ _⟩, ?_⟩)) (Nat.zero_le _), rfl, rfl, rfl⟩
  rintro ρ m nx ⟨rfl, rfl, rfl⟩
  clear c2 c3
  repeat (first | with_reducible (first | refine W_seq ?_ | refine q_then ?_ | refine q_thenr ?_ | refine q_thenx ?_ | refine W_block ?_ | refine q_block ?_ | refine q_blockx ?_ | refine W_ret ?_ | refine W_skip ?_ | refine W_exit ?_) | (with_reducible refine R_nil ?_; try dsimp only [slots0, slots_ud, cells_U, agg_ud, drop0, dropS, takeS, take0, ud_nil, take_ud, take_ud0, drop_ud, drop_ud0, take_udk, D.cells, D.fz, D.fzs, List.take_succ_cons, List.take_zero, List.drop_succ_cons, List.drop_zero, List.cons_append, List.nil_append, List.append_eq, List.length_cons, List.length_nil, Nat.reduceAdd, Nat.reduceMul, Nat.reduceSub, Int.reduceAdd, Int.reduceSub, Int.reduceToNat, Int.reduceNeg, Int.reduceMul]) | refine W_plain rfl ?_ | refine and_chk (by kernel_rfl) ?_ | refine k_move rfl rfl ?_ | refine k_assign rfl rfl ?_ | refine k_load rfl rfl rfl rfl ?_ | refine k_alloc rfl ?_ | refine k_box rfl rfl rfl ?_ | refine k_store rfl rfl rfl rfl rfl rfl rfl ?_ | refine k_fieldAddr rfl rfl rfl ?_ | refine k_build rfl rfl rfl ?_ | (refine k_append rfl rfl rfl ?_ ?_ ?_ rfl ?_ rfl rfl rfl ?_; (first | rfl | exact trivial | (show 0 < _; omega)); (first | rfl | (simp <;> omega)); (first | rfl | (simp <;> omega)); (omega)) | refine k_buildSlice (cs := []) rfl rfl rfl rfl rfl rfl rfl ?_ | refine k_buildSlice rfl rfl rfl rfl rfl rfl rfl ?_ | refine k_nilCheck rfl rfl rfl ?_ | refine k_pickT rfl rfl rfl ?_ | refine k_pickF rfl rfl rfl ?_ | (refine k_addi rfl rfl rfl ?_ ?_; (omega)) | refine k_not rfl rfl rfl ?_ | (refine k_lssT rfl rfl rfl ?_ ?_; (omega)) | (refine k_lssF rfl rfl rfl ?_ ?_; (omega)) | (refine k_gtrF rfl rfl rfl ?_ ?_; (omega)) | (refine k_neqT rfl rfl rfl ?_ ?_; (omega)) | (refine k_neqF rfl rfl rfl ?_ ?_; (omega)) | refine k_skip rfl ?_ | refine W_yes rfl ?_ | refine W_no rfl ?_)
  refine W_of_weak (weak_tok 103 10) ?_
  refine W_loopW (fun n' ρ m nx => ∃ (j q Lq : Nat) (zz zq : List D) (okq : Bool), j ≤ n ∧ q = j ∧ zz = sgsI (sgnsE j y3).1 ∧ Lq = (sgnsE j y3).2.1.length ∧ zq = bs (sgnsE j y3).2.1 ∧ okq = (sgnsE j y3).2.2 ∧ n' = n - j ∧ ρ = [(39, .int .i64 (j : Int)), (38, .int .i64 (n : Int)), (6, .ptr 2 0), (4, .ptr 1 0), (3, .int .i64 0), (2, .ptr 0 0)] ∧ m = [(2, some (.var 70 (.int .i64 set :: .slice (.own 3) q zz :: bx0))), (1, some (.var 98 [.slice .frozen Lq zq, .bool okq])), (0, some (.var 70 pp0)), (3, some (.tok 103 10))] ∧ nx = 4)
    ⟨_, _, _, _, (weak_ren (fun l => l) (by repeat (first | exact trivial | refine ⟨⟨_, rfl, (by first | exact Up.refl _ | exact Up.fz _ _ _ | exact Up.nil _ | exact Up.nrs _ | assumption), rfl⟩, ?_⟩)) (by repeat (first | exact trivial | refine ⟨⟨rfl, _, rfl, (by first | exact Ups.refl _ | assumption | ((repeat refine Ups.cons (by first | exact Up.refl _ | exact Up.nil _ | exact Up.fz _ _ _) ?_); exact Ups.nil)), rfl⟩, ?_⟩ | refine ⟨⟨rfl, rfl⟩, ?_⟩ | refine ⟨⟨rfl, _, rfl, bs_ups _ _, bs_lalls _ _⟩, ?_⟩ | refine ⟨⟨rfl, _, rfl, cls_ups _ _ (by assumption), cls_lalls _ _ (by assumption)⟩, ?_⟩)) (by first | decide | simp) (Nat.zero_le _) (fun _ h => absurd h (Nat.not_lt_zero _))), 0, 0, L3, [], zl3, _, Nat.zero_le _, rfl, rfl, hL3.symm, hzl3.symm, hk3.symm, rfl, rfl, rfl, rfl⟩ ?_
  rintro n' ρ m nx ⟨j, q, Lq, zz, zq, okq, hj, hq, hzz, hLq, hzq, hokq, rfl, rfl, rfl, rfl⟩
  subst hq
  by_cases hlt : q < n
  · have hsucc : sgnsE (q + 1) y3 = ((sgnsE q y3).1 ++ [(sgnE (sgnsE q y3).2).1], (sgnE (sgnsE q y3).2).2) := rfl
    have hlen := sgnsE_len q y3
    have hle := sgnsE_le q y3
    generalize sgnsE q y3 = rq at *
    obtain ⟨lq, y⟩ := rq
    dsimp only at hsucc hlen hle hzz hLq hzq hokq
    unfold sgnE at hsucc
    have d1 := eNumber_ok y 1 (by decide) (by omega)
    have m1 := numberE_le y 1
    generalize numberE y 1 = a at *
    obtain ⟨w, ya⟩ := a
    dsimp only at d1 m1 hsucc
    have d2 := eWord_ok ya (by omega)
    have m2 := takeE_le ya 32
    have w2 := takeE_len ya 32
    generalize takeE ya 32 = a at *
    obtain ⟨r, yb⟩ := a
    dsimp only at d2 m2 w2 hsucc
    have d3 := eWord_ok yb (by omega)
    have m3 := takeE_le yb 32
    have w3 := takeE_len yb 32
    generalize takeE yb 32 = a at *
    obtain ⟨s, yc⟩ := a
    dsimp only at d3 m3 w3 hsucc
    have d4 := eNumber_ok yc 1 (by decide) (by omega)
    generalize numberE yc 1 = a at *
    obtain ⟨o, yd⟩ := a
    dsimp only at d4 hsucc
    have fr := From_ok r w2
    have fs := From_ok s w3
    have hzl : q * 10 = zz.length := by rw [hzz, sgsI_len, hlen]
    have hz2 : zz ++ sgC w (nm r) (nm s) o = sgsI (sgnsE (q + 1) y3).1 := by rw [hsucc, hzz]; unfold sgsI; rw [List.flatMap_append]; simp [sgI]
    have hb2 : ∀ p : Nat → Bool, D.lall p (.agg (bs r)) = true := fun p => (D.cl_ren (fun l => l) p _ (show D.cl (.agg (bs r)) = true from bs_cl r)).2
    have hr2 : ∀ f : Nat → Nat, D.ren f (.agg (bs r)) = .agg (bs r) := fun f => (D.cl_ren f (fun _ => true) _ (show D.cl (.agg (bs r)) = true from bs_cl r)).1
    have hb3 : ∀ p : Nat → Bool, D.lall p (.agg (bs s)) = true := fun p => (D.cl_ren (fun l => l) p _ (show D.cl (.agg (bs s)) = true from bs_cl s)).2
    have hr3 : ∀ f : Nat → Nat, D.ren f (.agg (bs s)) = .agg (bs s) := fun f => (D.cl_ren f (fun _ => true) _ (show D.cl (.agg (bs s)) = true from bs_cl s)).1
    have hLd : yd.1.length = (sgnsE (q + 1) y3).2.1.length := by rw [hsucc]
    have hzd : bs yd.1 = bs (sgnsE (q + 1) y3).2.1 := by rw [hsucc]
    have hkd : yd.2 = (sgnsE (q + 1) y3).2.2 := by rw [hsucc]
    unfold eyM eyC at d1 d2 d3 d4
    rw [← hzq, ← hLq, ← hokq] at d1
    clear hsucc m1 m2 m3 hle hzq hLq hokq hzz w2 w3
    generalize bs yd.1 = zd at *
    generalize yd.1.length = Ld at *
    generalize yd.2 = kd at *
    generalize bs yc.1 = zc at *
    generalize yc.1.length = Lc at *
    generalize yc.2 = kc at *
    generalize bs yb.1 = zb at *
    generalize yb.1.length = Lb at *
    generalize yb.2 = kb at *
    generalize bs ya.1 = za at *
    generalize ya.1.length = La at *
    generalize ya.2 = ka at *
    generalize nm r = rn at *
    generalize nm s = sn at *
    have hgz : sgC w rn sn o = [.int .i64 w, .int .u64 (lim rn 0), .int .u64 (lim rn 1), .int .u64 (lim rn 2), .int .u64 (lim rn 3), .int .u64 (lim sn 0), .int .u64 (lim sn 1), .int .u64 (lim sn 2), .int .u64 (lim sn 3), .int .i64 o] := rfl
    repeat (first | with_reducible (first | refine W_seq ?_ | refine q_then ?_ | refine q_thenr ?_ | refine q_thenx ?_ | refine W_block ?_ | refine q_block ?_ | refine q_blockx ?_ | refine W_ret ?_ | refine W_skip ?_ | refine W_exit ?_) | (with_reducible refine R_nil ?_; try dsimp only [slots0, slots_ud, cells_U, agg_ud, drop0, dropS, takeS, take0, ud_nil, take_ud, take_ud0, drop_ud, drop_ud0, take_udk, D.cells, D.fz, D.fzs, List.take_succ_cons, List.take_zero, List.drop_succ_cons, List.drop_zero, List.cons_append, List.nil_append, List.append_eq, List.length_cons, List.length_nil, Nat.reduceAdd, Nat.reduceMul, Nat.reduceSub, Int.reduceAdd, Int.reduceSub, Int.reduceToNat, Int.reduceNeg, Int.reduceMul]) | refine W_plain rfl ?_ | refine and_chk (by kernel_rfl) ?_ | refine k_move rfl rfl ?_ | refine k_assign rfl rfl ?_ | refine k_load rfl rfl rfl rfl ?_ | refine k_alloc rfl ?_ | refine k_box rfl rfl rfl ?_ | refine k_store rfl rfl rfl rfl rfl rfl rfl ?_ | refine k_fieldAddr rfl rfl rfl ?_ | refine k_build rfl rfl rfl ?_ | refine k_callf (fun l => l + 1) [0] (5) rfl (d1) rfl (by first | exact Ups.refl _ | assumption | ((repeat refine Ups.cons (by first | exact Up.refl _ | exact Up.nil _ | exact Up.fz _ _ _) ?_); exact Ups.nil)) (rfl) (by (repeat (first | refine ⟨⟨rfl, _, rfl, (by first | exact Ups.refl _ | assumption | ((repeat refine Ups.cons (by first | exact Up.refl _ | exact Up.nil _ | exact Up.fz _ _ _) ?_); exact Ups.nil)), rfl⟩, ?_⟩ | refine ⟨⟨rfl, rfl⟩, ?_⟩)); exact trivial) rfl rfl rfl rfl (rfl) (rfl) rfl rfl rfl rfl ?_ | (refine k_append rfl rfl rfl ?_ ?_ ?_ rfl ?_ rfl rfl rfl ?_; (first | rfl | exact trivial | (show 0 < _; omega)); (first | rfl | (simp <;> omega)); (first | rfl | (simp <;> omega)); (omega)) | refine k_buildSlice (cs := []) rfl rfl rfl rfl rfl rfl rfl ?_ | refine k_buildSlice rfl rfl rfl rfl rfl rfl rfl ?_ | refine k_nilCheck rfl rfl rfl ?_ | refine k_pickT rfl rfl rfl ?_ | refine k_pickF rfl rfl rfl ?_ | (refine k_addi rfl rfl rfl ?_ ?_; (omega)) | refine k_not rfl rfl rfl ?_ | (refine k_lssT rfl rfl rfl ?_ ?_; (omega)) | (refine k_lssF rfl rfl rfl ?_ ?_; (omega)) | (refine k_gtrF rfl rfl rfl ?_ ?_; (omega)) | (refine k_neqT rfl rfl rfl ?_ ?_; (omega)) | (refine k_neqF rfl rfl rfl ?_ ?_; (omega)) | refine k_skip rfl ?_ | refine W_yes rfl ?_ | refine W_no rfl ?_)
    repeat (first | with_reducible (first | refine W_seq ?_ | refine q_then ?_ | refine q_thenr ?_ | refine q_thenx ?_ | refine W_block ?_ | refine q_block ?_ | refine q_blockx ?_ | refine W_ret ?_ | refine W_skip ?_ | refine W_exit ?_) | (with_reducible refine R_nil ?_; try dsimp only [slots0, slots_ud, cells_U, agg_ud, drop0, dropS, takeS, take0, ud_nil, take_ud, take_ud0, drop_ud, drop_ud0, take_udk, D.cells, D.fz, D.fzs, List.take_succ_cons, List.take_zero, List.drop_succ_cons, List.drop_zero, List.cons_append, List.nil_append, List.append_eq, List.length_cons, List.length_nil, Nat.reduceAdd, Nat.reduceMul, Nat.reduceSub, Int.reduceAdd, Int.reduceSub, Int.reduceToNat, Int.reduceNeg, Int.reduceMul]) | refine W_plain rfl ?_ | refine and_chk (by kernel_rfl) ?_ | refine k_move rfl rfl ?_ | refine k_assign rfl rfl ?_ | refine k_load rfl rfl rfl rfl ?_ | refine k_alloc rfl ?_ | refine k_box rfl rfl rfl ?_ | refine k_store rfl rfl rfl rfl rfl rfl rfl ?_ | refine k_fieldAddr rfl rfl rfl ?_ | refine k_build rfl rfl rfl ?_ | refine k_callf (fun l => l + 1) [0] (5) rfl (d2) rfl (by first | exact Ups.refl _ | assumption | ((repeat refine Ups.cons (by first | exact Up.refl _ | exact Up.nil _ | exact Up.fz _ _ _) ?_); exact Ups.nil)) (rfl) (by (repeat (first | refine ⟨⟨rfl, _, rfl, (by first | exact Ups.refl _ | assumption | ((repeat refine Ups.cons (by first | exact Up.refl _ | exact Up.nil _ | exact Up.fz _ _ _) ?_); exact Ups.nil)), rfl⟩, ?_⟩ | refine ⟨⟨rfl, rfl⟩, ?_⟩)); exact trivial) rfl rfl rfl rfl (hb2 _) (hr2 _) rfl rfl rfl rfl ?_ | refine k_call rfl fr rfl (b_fz1 _) (b_cl1 _) rfl ?_ | (refine k_append rfl rfl rfl ?_ ?_ ?_ rfl ?_ rfl rfl rfl ?_; (first | rfl | exact trivial | (show 0 < _; omega)); (first | rfl | (simp <;> omega)); (first | rfl | (simp <;> omega)); (omega)) | refine k_buildSlice (cs := []) rfl rfl rfl rfl rfl rfl rfl ?_ | refine k_buildSlice rfl rfl rfl rfl rfl rfl rfl ?_ | refine k_nilCheck rfl rfl rfl ?_ | refine k_pickT rfl rfl rfl ?_ | refine k_pickF rfl rfl rfl ?_ | (refine k_addi rfl rfl rfl ?_ ?_; (omega)) | refine k_not rfl rfl rfl ?_ | (refine k_lssT rfl rfl rfl ?_ ?_; (omega)) | (refine k_lssF rfl rfl rfl ?_ ?_; (omega)) | (refine k_gtrF rfl rfl rfl ?_ ?_; (omega)) | (refine k_neqT rfl rfl rfl ?_ ?_; (omega)) | (refine k_neqF rfl rfl rfl ?_ ?_; (omega)) | refine k_skip rfl ?_ | refine W_yes rfl ?_ | refine W_no rfl ?_)
    repeat (first | with_reducible (first | refine W_seq ?_ | refine q_then ?_ | refine q_thenr ?_ | refine q_thenx ?_ | refine W_block ?_ | refine q_block ?_ | refine q_blockx ?_ | refine W_ret ?_ | refine W_skip ?_ | refine W_exit ?_) | (with_reducible refine R_nil ?_; try dsimp only [slots0, slots_ud, cells_U, agg_ud, drop0, dropS, takeS, take0, ud_nil, take_ud, take_ud0, drop_ud, drop_ud0, take_udk, D.cells, D.fz, D.fzs, List.take_succ_cons, List.take_zero, List.drop_succ_cons, List.drop_zero, List.cons_append, List.nil_append, List.append_eq, List.length_cons, List.length_nil, Nat.reduceAdd, Nat.reduceMul, Nat.reduceSub, Int.reduceAdd, Int.reduceSub, Int.reduceToNat, Int.reduceNeg, Int.reduceMul]) | refine W_plain rfl ?_ | refine and_chk (by kernel_rfl) ?_ | refine k_move rfl rfl ?_ | refine k_assign rfl rfl ?_ | refine k_load rfl rfl rfl rfl ?_ | refine k_alloc rfl ?_ | refine k_box rfl rfl rfl ?_ | refine k_store rfl rfl rfl rfl rfl rfl rfl ?_ | refine k_fieldAddr rfl rfl rfl ?_ | refine k_build rfl rfl rfl ?_ | refine k_callf (fun l => l + 1) [0] (5) rfl (d3) rfl (by first | exact Ups.refl _ | assumption | ((repeat refine Ups.cons (by first | exact Up.refl _ | exact Up.nil _ | exact Up.fz _ _ _) ?_); exact Ups.nil)) (rfl) (by (repeat (first | refine ⟨⟨rfl, _, rfl, (by first | exact Ups.refl _ | assumption | ((repeat refine Ups.cons (by first | exact Up.refl _ | exact Up.nil _ | exact Up.fz _ _ _) ?_); exact Ups.nil)), rfl⟩, ?_⟩ | refine ⟨⟨rfl, rfl⟩, ?_⟩)); exact trivial) rfl rfl rfl rfl (hb3 _) (hr3 _) rfl rfl rfl rfl ?_ | refine k_call rfl fs rfl (b_fz1 _) (b_cl1 _) rfl ?_ | (refine k_append rfl rfl rfl ?_ ?_ ?_ rfl ?_ rfl rfl rfl ?_; (first | rfl | exact trivial | (show 0 < _; omega)); (first | rfl | (simp <;> omega)); (first | rfl | (simp <;> omega)); (omega)) | refine k_buildSlice (cs := []) rfl rfl rfl rfl rfl rfl rfl ?_ | refine k_buildSlice rfl rfl rfl rfl rfl rfl rfl ?_ | refine k_nilCheck rfl rfl rfl ?_ | refine k_pickT rfl rfl rfl ?_ | refine k_pickF rfl rfl rfl ?_ | (refine k_addi rfl rfl rfl ?_ ?_; (omega)) | refine k_not rfl rfl rfl ?_ | (refine k_lssT rfl rfl rfl ?_ ?_; (omega)) | (refine k_lssF rfl rfl rfl ?_ ?_; (omega)) | (refine k_gtrF rfl rfl rfl ?_ ?_; (omega)) | (refine k_neqT rfl rfl rfl ?_ ?_; (omega)) | (refine k_neqF rfl rfl rfl ?_ ?_; (omega)) | refine k_skip rfl ?_ | refine W_yes rfl ?_ | refine W_no rfl ?_)
    repeat (first | with_reducible (first | refine W_seq ?_ | refine q_then ?_ | refine q_thenr ?_ | refine q_thenx ?_ | refine W_block ?_ | refine q_block ?_ | refine q_blockx ?_ | refine W_ret ?_ | refine W_skip ?_ | refine W_exit ?_) | (with_reducible refine R_nil ?_; try dsimp only [slots0, slots_ud, cells_U, agg_ud, drop0, dropS, takeS, take0, ud_nil, take_ud, take_ud0, drop_ud, drop_ud0, take_udk, D.cells, D.fz, D.fzs, List.take_succ_cons, List.take_zero, List.drop_succ_cons, List.drop_zero, List.cons_append, List.nil_append, List.append_eq, List.length_cons, List.length_nil, Nat.reduceAdd, Nat.reduceMul, Nat.reduceSub, Int.reduceAdd, Int.reduceSub, Int.reduceToNat, Int.reduceNeg, Int.reduceMul]) | refine W_plain rfl ?_ | refine and_chk (by kernel_rfl) ?_ | refine k_buildSlice (cs := sgC w rn sn o) rfl rfl rfl rfl rfl rfl rfl ?_ | (refine k_append rfl rfl rfl ?_ hzl rfl rfl ?_ rfl rfl hz2 ?_; (rfl); (omega)) | refine k_move rfl rfl ?_ | refine k_assign rfl rfl ?_ | refine k_load rfl rfl rfl rfl ?_ | refine k_alloc rfl ?_ | refine k_box rfl rfl rfl ?_ | refine k_store rfl rfl rfl rfl rfl rfl rfl ?_ | refine k_fieldAddr rfl rfl rfl ?_ | refine k_build rfl rfl rfl ?_ | refine k_callf (fun l => l + 1) [0] (5) rfl (d4) rfl (by first | exact Ups.refl _ | assumption | ((repeat refine Ups.cons (by first | exact Up.refl _ | exact Up.nil _ | exact Up.fz _ _ _) ?_); exact Ups.nil)) (rfl) (by (repeat (first | refine ⟨⟨rfl, _, rfl, (by first | exact Ups.refl _ | assumption | ((repeat refine Ups.cons (by first | exact Up.refl _ | exact Up.nil _ | exact Up.fz _ _ _) ?_); exact Ups.nil)), rfl⟩, ?_⟩ | refine ⟨⟨rfl, rfl⟩, ?_⟩)); exact trivial) rfl rfl rfl rfl (rfl) (rfl) rfl rfl rfl rfl ?_ | (refine k_append rfl rfl rfl ?_ ?_ ?_ rfl ?_ rfl rfl rfl ?_; (first | rfl | exact trivial | (show 0 < _; omega)); (first | rfl | (simp <;> omega)); (first | rfl | (simp <;> omega)); (omega)) | refine k_buildSlice (cs := []) rfl rfl rfl rfl rfl rfl rfl ?_ | refine k_buildSlice rfl rfl rfl rfl rfl rfl rfl ?_ | refine k_nilCheck rfl rfl rfl ?_ | refine k_pickT rfl rfl rfl ?_ | refine k_pickF rfl rfl rfl ?_ | (refine k_addi rfl rfl rfl ?_ ?_; (omega)) | refine k_not rfl rfl rfl ?_ | (refine k_lssT rfl rfl rfl ?_ ?_; (omega)) | (refine k_lssF rfl rfl rfl ?_ ?_; (omega)) | (refine k_gtrF rfl rfl rfl ?_ ?_; (omega)) | (refine k_neqT rfl rfl rfl ?_ ?_; (omega)) | (refine k_neqF rfl rfl rfl ?_ ?_; (omega)) | refine k_skip rfl ?_ | refine W_yes rfl ?_ | refine W_no rfl ?_)
    exact ⟨n - (q + 1), _, _, _, (weak_ren (fun l => if l = 3 then 6 else l) (by repeat (first | exact trivial | refine ⟨⟨_, rfl, (by first | exact Up.refl _ | exact Up.fz _ _ _ | exact Up.nil _ | exact Up.nrs _ | assumption), rfl⟩, ?_⟩)) (by repeat (first | exact trivial | refine ⟨⟨rfl, _, rfl, (by first | exact Ups.refl _ | assumption | ((repeat refine Ups.cons (by first | exact Up.refl _ | exact Up.nil _ | exact Up.fz _ _ _) ?_); exact Ups.nil)), rfl⟩, ?_⟩ | refine ⟨⟨rfl, rfl⟩, ?_⟩ | refine ⟨⟨rfl, _, rfl, bs_ups _ _, bs_lalls _ _⟩, ?_⟩ | refine ⟨⟨rfl, _, rfl, cls_ups _ _ (by assumption), cls_lalls _ _ (by assumption)⟩, ?_⟩)) (by first | decide | simp) (Nat.zero_le _) (fun _ h => absurd h (Nat.not_lt_zero _))), by omega, q + 1, q + 1, Ld, _, zd, kd, by omega, rfl, rfl, hLd, hzd, hkd, rfl, rfl, rfl, rfl⟩
  · have eq : q = n := by omega
    subst eq
    rw [hlast] at hzz hLq hzq hokq
    dsimp only at hzz hLq hzq hokq
    rw [hL4] at hLq
    rw [hzl4] at hzq
    rw [hk4] at hokq
    subst hLq hzq hokq hzz
    clear hlast
    rcases hR with ⟨rfl, rfl⟩ | ⟨rfl, rfl, hf⟩ | ⟨rfl, e, hne, rfl, hf⟩
    · repeat (first | with_reducible (first | refine W_seq ?_ | refine q_then ?_ | refine q_thenr ?_ | refine q_thenx ?_ | refine W_block ?_ | refine q_block ?_ | refine q_blockx ?_ | refine W_ret ?_ | refine W_skip ?_ | refine W_exit ?_) | (with_reducible refine R_nil ?_; try dsimp only [slots0, slots_ud, cells_U, agg_ud, drop0, dropS, takeS, take0, ud_nil, take_ud, take_ud0, drop_ud, drop_ud0, take_udk, D.cells, D.fz, D.fzs, List.take_succ_cons, List.take_zero, List.drop_succ_cons, List.drop_zero, List.cons_append, List.nil_append, List.append_eq, List.length_cons, List.length_nil, Nat.reduceAdd, Nat.reduceMul, Nat.reduceSub, Int.reduceAdd, Int.reduceSub, Int.reduceToNat, Int.reduceNeg, Int.reduceMul]) | refine W_plain rfl ?_ | refine and_chk (by kernel_rfl) ?_ | refine k_store rfl rfl rfl rfl (by exact hxl) rfl (hsp _ _) ?_ | refine k_move rfl rfl ?_ | refine k_assign rfl rfl ?_ | refine k_load rfl rfl rfl rfl ?_ | refine k_alloc rfl ?_ | refine k_box rfl rfl rfl ?_ | refine k_store rfl rfl rfl rfl rfl rfl rfl ?_ | refine k_fieldAddr rfl rfl rfl ?_ | refine k_build rfl rfl rfl ?_ | refine k_callf (fun l => l + 1) [0] (4) rfl (c5) rfl (by first | exact Ups.refl _ | assumption | ((repeat refine Ups.cons (by first | exact Up.refl _ | exact Up.nil _ | exact Up.fz _ _ _) ?_); exact Ups.nil)) (rfl) (by (repeat (first | refine ⟨⟨rfl, _, rfl, (by first | exact Ups.refl _ | assumption | ((repeat refine Ups.cons (by first | exact Up.refl _ | exact Up.nil _ | exact Up.fz _ _ _) ?_); exact Ups.nil)), rfl⟩, ?_⟩ | refine ⟨⟨rfl, rfl⟩, ?_⟩)); exact trivial) rfl rfl rfl rfl (hbe _) (hbr _) rfl rfl rfl rfl ?_ | (refine k_append rfl rfl rfl ?_ ?_ ?_ rfl ?_ rfl rfl rfl ?_; (first | rfl | exact trivial | (show 0 < _; omega)); (first | rfl | (simp <;> omega)); (first | rfl | (simp <;> omega)); (omega)) | refine k_buildSlice (cs := []) rfl rfl rfl rfl rfl rfl rfl ?_ | refine k_buildSlice rfl rfl rfl rfl rfl rfl rfl ?_ | refine k_nilCheck rfl rfl rfl ?_ | refine k_pickT rfl rfl rfl ?_ | refine k_pickF rfl rfl rfl ?_ | (refine k_addi rfl rfl rfl ?_ ?_; (omega)) | refine k_not rfl rfl rfl ?_ | (refine k_lssT rfl rfl rfl ?_ ?_; (omega)) | (refine k_lssF rfl rfl rfl ?_ ?_; (omega)) | (refine k_gtrF rfl rfl rfl ?_ ?_; (omega)) | (refine k_neqT rfl rfl rfl ?_ ?_; (omega)) | (refine k_neqF rfl rfl rfl ?_ ?_; (omega)) | refine k_skip rfl ?_ | refine W_yes rfl ?_ | refine W_no rfl ?_)
      (first | with_reducible refine q_endr ?_); refine rets2 Try.results24 (by first | exact RetV.tmp _ _ rfl | exact RetV.cell _ _ _ _ _ _ _ _ inferInstance rfl rfl rfl) (by first | exact RetV.tmp _ _ rfl | exact RetV.cell _ _ _ _ _ _ _ _ inferInstance rfl rfl rfl) ?_ ?_
      · rfl
      · rfl
    · repeat (first | with_reducible (first | refine W_seq ?_ | refine q_then ?_ | refine q_thenr ?_ | refine q_thenx ?_ | refine W_block ?_ | refine q_block ?_ | refine q_blockx ?_ | refine W_ret ?_ | refine W_skip ?_ | refine W_exit ?_) | (with_reducible refine R_nil ?_; try dsimp only [slots0, slots_ud, cells_U, agg_ud, drop0, dropS, takeS, take0, ud_nil, take_ud, take_ud0, drop_ud, drop_ud0, take_udk, D.cells, D.fz, D.fzs, List.take_succ_cons, List.take_zero, List.drop_succ_cons, List.drop_zero, List.cons_append, List.nil_append, List.append_eq, List.length_cons, List.length_nil, Nat.reduceAdd, Nat.reduceMul, Nat.reduceSub, Int.reduceAdd, Int.reduceSub, Int.reduceToNat, Int.reduceNeg, Int.reduceMul]) | refine W_plain rfl ?_ | refine and_chk (by kernel_rfl) ?_ | refine k_store rfl rfl rfl rfl (by exact hxl) rfl (hsp _ _) ?_ | refine k_load rfl rfl rfl (hwa _ _ _) ?_ | refine k_store rfl rfl rfl rfl (hwl _ _) rfl (by exact hws _ _ _ rfl) ?_ | refine k_move rfl rfl ?_ | refine k_assign rfl rfl ?_ | refine k_load rfl rfl rfl rfl ?_ | refine k_alloc rfl ?_ | refine k_box rfl rfl rfl ?_ | refine k_store rfl rfl rfl rfl rfl rfl rfl ?_ | refine k_fieldAddr rfl rfl rfl ?_ | refine k_build rfl rfl rfl ?_ | refine k_callf (fun l => l + 1) [0] (4) rfl (c5) rfl (by first | exact Ups.refl _ | assumption | ((repeat refine Ups.cons (by first | exact Up.refl _ | exact Up.nil _ | exact Up.fz _ _ _) ?_); exact Ups.nil)) (rfl) (by (repeat (first | refine ⟨⟨rfl, _, rfl, (by first | exact Ups.refl _ | assumption | ((repeat refine Ups.cons (by first | exact Up.refl _ | exact Up.nil _ | exact Up.fz _ _ _) ?_); exact Ups.nil)), rfl⟩, ?_⟩ | refine ⟨⟨rfl, rfl⟩, ?_⟩)); exact trivial) rfl rfl rfl rfl (hbe _) (hbr _) rfl rfl rfl rfl ?_ | refine k_call rfl hf rfl (hfz _ _ _) (hcz _ _) rfl ?_ | (refine k_append rfl rfl rfl ?_ ?_ ?_ rfl ?_ rfl rfl rfl ?_; (first | rfl | exact trivial | (show 0 < _; omega)); (first | rfl | (simp <;> omega)); (first | rfl | (simp <;> omega)); (omega)) | refine k_buildSlice (cs := []) rfl rfl rfl rfl rfl rfl rfl ?_ | refine k_buildSlice rfl rfl rfl rfl rfl rfl rfl ?_ | refine k_nilCheck rfl rfl rfl ?_ | refine k_pickT rfl rfl rfl ?_ | refine k_pickF rfl rfl rfl ?_ | (refine k_addi rfl rfl rfl ?_ ?_; (omega)) | refine k_not rfl rfl rfl ?_ | (refine k_lssT rfl rfl rfl ?_ ?_; (omega)) | (refine k_lssF rfl rfl rfl ?_ ?_; (omega)) | (refine k_gtrF rfl rfl rfl ?_ ?_; (omega)) | (refine k_neqT rfl rfl rfl ?_ ?_; (omega)) | (refine k_neqF rfl rfl rfl ?_ ?_; (omega)) | refine k_skip rfl ?_ | refine W_yes rfl ?_ | refine W_no rfl ?_)
      (first | with_reducible refine q_endr ?_); refine rets2 Try.results24 (RetV.cell _ _ _ _ _ _ _ _ inferInstance rfl rfl (by exact hwa _ _ _)) (RetV.tmp _ _ rfl) ?_ rfl
      show D.agg (_ :: _ :: D.fzs xb) = _
      rw [hxf]; rfl
    · repeat (first | with_reducible (first | refine W_seq ?_ | refine q_then ?_ | refine q_thenr ?_ | refine q_thenx ?_ | refine W_block ?_ | refine q_block ?_ | refine q_blockx ?_ | refine W_ret ?_ | refine W_skip ?_ | refine W_exit ?_) | (with_reducible refine R_nil ?_; try dsimp only [slots0, slots_ud, cells_U, agg_ud, drop0, dropS, takeS, take0, ud_nil, take_ud, take_ud0, drop_ud, drop_ud0, take_udk, D.cells, D.fz, D.fzs, List.take_succ_cons, List.take_zero, List.drop_succ_cons, List.drop_zero, List.cons_append, List.nil_append, List.append_eq, List.length_cons, List.length_nil, Nat.reduceAdd, Nat.reduceMul, Nat.reduceSub, Int.reduceAdd, Int.reduceSub, Int.reduceToNat, Int.reduceNeg, Int.reduceMul]) | refine W_plain rfl ?_ | refine and_chk (by kernel_rfl) ?_ | refine k_store rfl rfl rfl rfl (by exact hxl) rfl (hsp _ _) ?_ | refine k_load rfl rfl rfl (hwa _ _ _) ?_ | refine k_move rfl rfl ?_ | refine k_assign rfl rfl ?_ | refine k_load rfl rfl rfl rfl ?_ | refine k_alloc rfl ?_ | refine k_box rfl rfl rfl ?_ | refine k_store rfl rfl rfl rfl rfl rfl rfl ?_ | refine k_fieldAddr rfl rfl rfl ?_ | refine k_build rfl rfl rfl ?_ | refine k_callf (fun l => l + 1) [0] (4) rfl (c5) rfl (by first | exact Ups.refl _ | assumption | ((repeat refine Ups.cons (by first | exact Up.refl _ | exact Up.nil _ | exact Up.fz _ _ _) ?_); exact Ups.nil)) (rfl) (by (repeat (first | refine ⟨⟨rfl, _, rfl, (by first | exact Ups.refl _ | assumption | ((repeat refine Ups.cons (by first | exact Up.refl _ | exact Up.nil _ | exact Up.fz _ _ _) ?_); exact Ups.nil)), rfl⟩, ?_⟩ | refine ⟨⟨rfl, rfl⟩, ?_⟩)); exact trivial) rfl rfl rfl rfl (hbe _) (hbr _) rfl rfl rfl rfl ?_ | refine k_call rfl hf rfl (hfz _ _ _) (hcz _ _) rfl ?_ | (refine k_append rfl rfl rfl ?_ ?_ ?_ rfl ?_ rfl rfl rfl ?_; (first | rfl | exact trivial | (show 0 < _; omega)); (first | rfl | (simp <;> omega)); (first | rfl | (simp <;> omega)); (omega)) | refine k_buildSlice (cs := []) rfl rfl rfl rfl rfl rfl rfl ?_ | refine k_buildSlice rfl rfl rfl rfl rfl rfl rfl ?_ | refine k_nilCheck rfl rfl rfl ?_ | refine k_pickT rfl rfl rfl ?_ | refine k_pickF rfl rfl rfl ?_ | (refine k_addi rfl rfl rfl ?_ ?_; (omega)) | refine k_not rfl rfl rfl ?_ | (refine k_lssT rfl rfl rfl ?_ ?_; (omega)) | (refine k_lssF rfl rfl rfl ?_ ?_; (omega)) | (refine k_gtrF rfl rfl rfl ?_ ?_; (omega)) | (refine k_neqT rfl rfl rfl ?_ ?_; (omega)) | (refine k_neqF rfl rfl rfl ?_ ?_; (omega)) | refine k_skip rfl ?_ | refine W_yes rfl ?_ | refine W_no rfl ?_)
      (first | with_reducible refine q_endr ?_); refine rets2 Try.results24 (by first | exact RetV.tmp _ _ rfl | exact RetV.cell _ _ _ _ _ _ _ _ inferInstance rfl rfl rfl) (by first | exact RetV.tmp _ _ rfl | exact RetV.cell _ _ _ _ _ _ _ _ inferInstance rfl rfl rfl) ?_ ?_
      · rfl
      · rfl
end Go.Proofs.Ytcfefmbbbfdppaa
namespace Go.Proofs.Ytcfefmbbbfdppaa
open Go.RowKit Go.Lib Go.IntWalk
set_option linter.unusedVariables false
set_option maxRecDepth 100000
theorem takeE_app (a r : List UInt8) (ok : Bool) (n : Nat) (h : a.length = n) : takeE (a ++ r, ok) n = (a, (r, ok)) := by
  unfold takeE
  rw [if_neg (by simp; omega)]
  subst h
  simp
theorem numI_toB (k n : Nat) (h : n < 256 ^ k) (h2 : n < 9223372036854775808) : numI (toB k n) = (n : Int) := by
  unfold numI
  rw [nm_toB, Nat.mod_eq_of_lt h, i64_in _ (by omega)]
theorem numberE_app (k n : Nat) (r : List UInt8) (ok : Bool) (h : n < 256 ^ k) (h2 : n < 9223372036854775808) : numberE (toB k n ++ r, ok) k = ((n : Int), (r, ok)) := by
  unfold numberE
  rw [takeE_app _ r ok k (toB_len k n)]
  simp only [numI_toB k n h h2]
def SgT.i (e : SgT) : SgI := ((e.w : Int), e.r, e.s, (e.o : Int))
theorem sgnE_app (e : SgT) (h : e.ok) (r : List UInt8) (ok : Bool) : sgnE (e.out ++ r, ok) = (e.i, (r, ok)) := by
  unfold sgnE SgT.out
  have hw := h.w
  have ho := h.o
  simp only [List.append_assoc]
  rw [numberE_app 1 e.w _ ok (by omega) (by omega)]
  dsimp only
  rw [takeE_app (b32 e.r) _ ok 32 (b32_len _)]
  dsimp only
  rw [takeE_app (b32 e.s) _ ok 32 (b32_len _)]
  dsimp only
  rw [numberE_app 1 e.o _ ok (by omega) (by omega), nm_b32 _ h.r, nm_b32 _ h.s]
  rfl
theorem sgnsE_app (l : List SgT) (h : ∀ e ∈ l, e.ok) (r : List UInt8) (ok : Bool) : ∀ j, j ≤ l.length → sgnsE j (sgOut l ++ r, ok) = ((l.take j).map SgT.i, (sgOut (l.drop j) ++ r, ok))
  | 0, _ => by simp [sgnsE]
  | j + 1, hj => by
    have hlt : j < l.length := by omega
    rw [sgnsE, sgnsE_app l h r ok j (by omega)]
    dsimp only
    rw [List.drop_eq_getElem_cons hlt]
    have e1 : sgOut (l[j] :: l.drop (j + 1)) = l[j].out ++ sgOut (l.drop (j + 1)) := by unfold sgOut; rw [List.flatMap_cons]
    rw [e1, List.append_assoc, sgnE_app _ (h _ (List.getElem_mem hlt))]
    dsimp only
    rw [List.take_add_one, List.getElem?_eq_getElem hlt, List.map_append]
    rfl
def BodyT.i (b : BodyT) : BodyI := ⟨b.t, b.n, b.c, b.e, b.u, b.v, b.l⟩
theorem bodyE_app (b : BodyT) (h : b.ok) (ok : Bool) : bodyE (b.out, ok) = (b.i, (b.l, ok)) := by
  have h1 := h.t; have h2 := h.n; have h3 := h.c; have h4 := h.u; have h5 := h.v
  unfold bodyE BodyT.out
  simp only [List.append_assoc]
  rw [numberE_app 8 b.t _ ok (by omega) (by omega)]
  dsimp only
  rw [numberE_app 4 b.n _ ok (by omega) (by omega)]
  dsimp only
  rw [numberE_app 2 b.c _ ok (by omega) (by omega)]
  dsimp only
  rw [takeE_app b.e _ ok 32 h.e]
  dsimp only
  rw [numberE_app 8 b.u _ ok (by omega) (by omega)]
  dsimp only
  rw [numberE_app 1 b.v _ ok (by omega) (by omega)]
  rfl
theorem Decode_out (q : PapT) (h : q.ok) (no : Nat) (hno : q.out.length = no) : Pur Try.prog 24 [.slice .frozen no (bs q.out)] (.tup [.agg q.cells, .int .i64 0]) := by
  subst hno
  have hn := h.n
  have hset := h.set
  have hbl := h.b.l
  have hlen : q.out.length ≤ 140737488351232 := by unfold PapT.out; simp only [List.length_append, toB_len, sgOut_len, q.b.out_len h.b]; omega
  have hout : q.out = toB 1 1 ++ (toB 4 q.set ++ (toB 1 q.sg.length ++ (sgOut q.sg ++ q.b.out))) := by unfold PapT.out; simp only [List.append_assoc]
  have e4 := sgnsE_app q.sg h.sg q.b.out true q.sg.length (Nat.le_refl _)
  rw [List.take_length, List.drop_length] at e4
  have e4 : sgnsE q.sg.length (sgOut q.sg ++ q.b.out, true) = (q.sg.map SgT.i, (q.b.out, true)) := e4
  have hc : ppC (q.set : Int) q.sg.length (sgsI (q.sg.map SgT.i)) q.b.i.cells = q.cells := by
    unfold PapT.cells
    have : sgsI (q.sg.map SgT.i) = sgsC q.sg := by unfold sgsI sgsC; rw [List.flatMap_map]; rfl
    rw [this]; rfl
  refine Decode_walk q.out hlen 1 q.set _ _ _ _ _ q.sg.length _ _ (by rw [hout]; exact numberE_app 1 1 _ true (by decide) (by decide)) (numberE_app 4 q.set _ true (by omega) (by omega)) (numberE_app 1 q.sg.length _ true (by omega) (by omega)) (fun _ => rfl) hn e4 (bodyE_app q.b h.b true) _ (.inr (.inl ⟨rfl, ?_, ?_⟩))
  · rw [hc]
  · rw [hc]; exact fault_ok q h
end Go.Proofs.Ytcfefmbbbfdppaa
namespace Go.Proofs.Ytcfefmbbbfdppaa
open Go.RowKit Go.Lib Go.IntWalk
set_option linter.unusedVariables false
set_option maxRecDepth 100000
theorem deqs_bs : ∀ (x y : List UInt8), x.length = y.length → deqs (bs x) (bs y) = decide (x = y)
  | [], [], _ => rfl
  | [], b :: y, h => by simp at h
  | a :: x, [], h => by simp at h
  | a :: x, b :: y, h => by
    show (deq1 (.int .u8 _) (.int .u8 _) && deqs (bs x) (bs y)) = _
    rw [deqs_bs x y (by simpa using h)]
    simp only [deq1]
    rw [Bool.eq_iff_iff]
    simp only [Bool.and_eq_true, decide_eq_true_eq, beq_iff_eq, List.cons.injEq]
    constructor
    · rintro ⟨h1, h2⟩; exact ⟨UInt8.toNat_inj.1 (by omega), h2⟩
    · rintro ⟨rfl, rfl⟩; simp
theorem lks_bs : ∀ (n : Nat) (z : List UInt8), z.length = n → lks (bs z) = lks (bs (List.replicate n 0))
  | 0, [], _ => rfl
  | n + 1, c :: z, h => by
    have ih := lks_bs n z (by simpa using h)
    rw [List.replicate_succ]
    show lks (D.int .u8 (c.toNat : Int) :: bs z) = lks (D.int .u8 _ :: bs (List.replicate n 0))
    unfold lks
    rw [ih]
    rfl
set_option maxHeartbeats 8000000 in
theorem same_ok (a b : BodyT) (ha : a.e.length = 32) (hb : b.e.length = 32) (c : Bool) (hc : c = true ↔ a = b) : Pur Try.prog 52 [.agg a.cells, .agg b.cells] (.bool c) := by
  obtain ⟨c1, h1⟩ : ∃ c1, decide ((a.t : Int) = b.t) = c1 := ⟨_, rfl⟩
  obtain ⟨c2, h2⟩ : ∃ c1, decide ((a.n : Int) = b.n) = c1 := ⟨_, rfl⟩
  obtain ⟨c3, h3⟩ : ∃ c1, decide ((a.c : Int) = b.c) = c1 := ⟨_, rfl⟩
  obtain ⟨c4, h4⟩ : ∃ c1, deqs (bs a.e) (bs b.e) = c1 := ⟨_, rfl⟩
  obtain ⟨c5, h5⟩ : ∃ c1, decide ((a.u : Int) = b.u) = c1 := ⟨_, rfl⟩
  obtain ⟨c6, h6⟩ : ∃ c1, decide ((a.v : Int) = b.v) = c1 := ⟨_, rfl⟩
  obtain ⟨c7, h7⟩ : ∃ c1, ((⟨a.l.toArray⟩ : ByteArray).toList == (⟨b.l.toArray⟩ : ByteArray).toList) = c1 := ⟨_, rfl⟩
  have hcc : c = (c1 && c2 && c3 && c4 && c5 && c6 && c7) := by
    rw [← h1, ← h2, ← h3, ← h4, ← h5, ← h6, ← h7, ba_mk, ba_mk, deqs_bs _ _ (by rw [ha, hb])]
    rw [Bool.eq_iff_iff, hc]
    cases a; cases b
    simp only [decide_eq_true_eq, BodyT.mk.injEq, Bool.and_eq_true, beq_iff_eq, Int.natCast_inj]
    grind
  clear hc
  subst hcc
  have k1 := lks_bs 32 a.e ha
  have k2 := lks_bs 32 b.e hb
  have la := bd_len ha
  have lb := bd_len hb
  have pa := bd_put ha
  have pb := bd_put hb
  have ua := bd_at ha 0 _ rfl
  have va := bd_at ha 1 _ rfl
  have da := bd_at ha 2 _ rfl
  have ea := bd_e ha
  have ub := bd_at hb 0 _ rfl
  have vb := bd_at hb 1 _ rfl
  have db := bd_at hb 2 _ rfl
  have eb := bd_e hb
  have t_ : ∀ (b : BodyT) ze, cut ⟨false, 1, ze⟩ 0 b.cells = some (.int .i64 b.t) := fun _ _ => rfl
  have n_ : ∀ (b : BodyT) ze, cut ⟨false, 1, ze⟩ 1 b.cells = some (.int .i64 b.n) := fun _ _ => rfl
  have c_ : ∀ (b : BodyT) ze, cut ⟨false, 1, ze⟩ 2 b.cells = some (.int .i64 b.c) := fun _ _ => rfl
  have ta := t_ a; have tb := t_ b; have na := n_ a; have nb := n_ b; have ca := c_ a; have cb := c_ b
  clear t_ n_ c_
  generalize a.cells = x at *
  generalize b.cells = y at *
  refine pur_intro Try.func52 rfl Try.ntmps52 rfl (by first | rfl | assumption | exact bs_cl _) fun B => ?_
  repeat (first | with_reducible (first | refine W_seq ?_ | refine q_then ?_ | refine W_ret ?_) | (with_reducible refine R_nil ?_; try dsimp only [slots0, slots_ud, cells_U, agg_ud, drop0, dropS, takeS, take0, ud_nil, take_ud, take_ud0, drop_ud, drop_ud0, take_udk, D.cells, D.fz, D.fzs, List.take_succ_cons, List.take_zero, List.drop_succ_cons, List.drop_zero, List.cons_append, List.nil_append, List.append_eq, List.length_cons, List.length_nil, Nat.reduceAdd, Nat.reduceMul, Nat.reduceSub, Int.reduceAdd, Int.reduceSub, Int.reduceToNat, Int.reduceNeg, Int.reduceMul]) | refine W_plain rfl ?_ | refine and_chk (by kernel_rfl) ?_ | refine k_load rfl rfl rfl (ta _) ?_ | refine k_load rfl rfl rfl (tb _) ?_ | refine k_move rfl rfl ?_ | refine k_assign rfl rfl ?_ | refine k_load rfl rfl rfl rfl ?_ | refine k_box rfl rfl rfl ?_ | refine k_fieldAddr rfl rfl rfl ?_ | refine k_eql rfl rfl rfl h1 ?_ | refine k_pickT rfl rfl rfl ?_ | refine k_pickF rfl rfl rfl ?_ | refine k_eqa rfl rfl rfl rfl rfl rfl ?_ | refine k_skip rfl ?_)
  cases c1
  · repeat (first | with_reducible (first | refine W_seq ?_ | refine q_then ?_ | refine W_ret ?_) | (with_reducible refine R_nil ?_; try dsimp only [slots0, slots_ud, cells_U, agg_ud, drop0, dropS, takeS, take0, ud_nil, take_ud, take_ud0, drop_ud, drop_ud0, take_udk, D.cells, D.fz, D.fzs, List.take_succ_cons, List.take_zero, List.drop_succ_cons, List.drop_zero, List.cons_append, List.nil_append, List.append_eq, List.length_cons, List.length_nil, Nat.reduceAdd, Nat.reduceMul, Nat.reduceSub, Int.reduceAdd, Int.reduceSub, Int.reduceToNat, Int.reduceNeg, Int.reduceMul]) | refine W_plain rfl ?_ | refine and_chk (by kernel_rfl) ?_ | refine k_move rfl rfl ?_ | refine k_assign rfl rfl ?_ | refine k_load rfl rfl rfl rfl ?_ | refine k_box rfl rfl rfl ?_ | refine k_fieldAddr rfl rfl rfl ?_ | refine k_pickT rfl rfl rfl ?_ | refine k_pickF rfl rfl rfl ?_ | refine k_eqa rfl rfl rfl rfl rfl rfl ?_ | refine k_skip rfl ?_)
    (first | with_reducible refine q_endr ?_); refine rets1 Try.results52 (by first | exact RetV.tmp _ _ rfl | exact RetV.cell _ _ _ _ _ _ _ _ inferInstance rfl rfl rfl) ?_
    rfl
  repeat (first | with_reducible (first | refine W_seq ?_ | refine q_then ?_ | refine W_ret ?_) | (with_reducible refine R_nil ?_; try dsimp only [slots0, slots_ud, cells_U, agg_ud, drop0, dropS, takeS, take0, ud_nil, take_ud, take_ud0, drop_ud, drop_ud0, take_udk, D.cells, D.fz, D.fzs, List.take_succ_cons, List.take_zero, List.drop_succ_cons, List.drop_zero, List.cons_append, List.nil_append, List.append_eq, List.length_cons, List.length_nil, Nat.reduceAdd, Nat.reduceMul, Nat.reduceSub, Int.reduceAdd, Int.reduceSub, Int.reduceToNat, Int.reduceNeg, Int.reduceMul]) | refine W_plain rfl ?_ | refine and_chk (by kernel_rfl) ?_ | refine k_load rfl rfl rfl (na _) ?_ | refine k_load rfl rfl rfl (nb _) ?_ | refine k_move rfl rfl ?_ | refine k_assign rfl rfl ?_ | refine k_load rfl rfl rfl rfl ?_ | refine k_box rfl rfl rfl ?_ | refine k_fieldAddr rfl rfl rfl ?_ | refine k_eql rfl rfl rfl h2 ?_ | refine k_pickT rfl rfl rfl ?_ | refine k_pickF rfl rfl rfl ?_ | refine k_eqa rfl rfl rfl rfl rfl rfl ?_ | refine k_skip rfl ?_)
  cases c2
  · repeat (first | with_reducible (first | refine W_seq ?_ | refine q_then ?_ | refine W_ret ?_) | (with_reducible refine R_nil ?_; try dsimp only [slots0, slots_ud, cells_U, agg_ud, drop0, dropS, takeS, take0, ud_nil, take_ud, take_ud0, drop_ud, drop_ud0, take_udk, D.cells, D.fz, D.fzs, List.take_succ_cons, List.take_zero, List.drop_succ_cons, List.drop_zero, List.cons_append, List.nil_append, List.append_eq, List.length_cons, List.length_nil, Nat.reduceAdd, Nat.reduceMul, Nat.reduceSub, Int.reduceAdd, Int.reduceSub, Int.reduceToNat, Int.reduceNeg, Int.reduceMul]) | refine W_plain rfl ?_ | refine and_chk (by kernel_rfl) ?_ | refine k_move rfl rfl ?_ | refine k_assign rfl rfl ?_ | refine k_load rfl rfl rfl rfl ?_ | refine k_box rfl rfl rfl ?_ | refine k_fieldAddr rfl rfl rfl ?_ | refine k_pickT rfl rfl rfl ?_ | refine k_pickF rfl rfl rfl ?_ | refine k_eqa rfl rfl rfl rfl rfl rfl ?_ | refine k_skip rfl ?_)
    (first | with_reducible refine q_endr ?_); refine rets1 Try.results52 (by first | exact RetV.tmp _ _ rfl | exact RetV.cell _ _ _ _ _ _ _ _ inferInstance rfl rfl rfl) ?_
    rfl
  repeat (first | with_reducible (first | refine W_seq ?_ | refine q_then ?_ | refine W_ret ?_) | (with_reducible refine R_nil ?_; try dsimp only [slots0, slots_ud, cells_U, agg_ud, drop0, dropS, takeS, take0, ud_nil, take_ud, take_ud0, drop_ud, drop_ud0, take_udk, D.cells, D.fz, D.fzs, List.take_succ_cons, List.take_zero, List.drop_succ_cons, List.drop_zero, List.cons_append, List.nil_append, List.append_eq, List.length_cons, List.length_nil, Nat.reduceAdd, Nat.reduceMul, Nat.reduceSub, Int.reduceAdd, Int.reduceSub, Int.reduceToNat, Int.reduceNeg, Int.reduceMul]) | refine W_plain rfl ?_ | refine and_chk (by kernel_rfl) ?_ | refine k_load rfl rfl rfl (ca _) ?_ | refine k_load rfl rfl rfl (cb _) ?_ | refine k_move rfl rfl ?_ | refine k_assign rfl rfl ?_ | refine k_load rfl rfl rfl rfl ?_ | refine k_box rfl rfl rfl ?_ | refine k_fieldAddr rfl rfl rfl ?_ | refine k_eql rfl rfl rfl h3 ?_ | refine k_pickT rfl rfl rfl ?_ | refine k_pickF rfl rfl rfl ?_ | refine k_eqa rfl rfl rfl rfl rfl rfl ?_ | refine k_skip rfl ?_)
  cases c3
  · repeat (first | with_reducible (first | refine W_seq ?_ | refine q_then ?_ | refine W_ret ?_) | (with_reducible refine R_nil ?_; try dsimp only [slots0, slots_ud, cells_U, agg_ud, drop0, dropS, takeS, take0, ud_nil, take_ud, take_ud0, drop_ud, drop_ud0, take_udk, D.cells, D.fz, D.fzs, List.take_succ_cons, List.take_zero, List.drop_succ_cons, List.drop_zero, List.cons_append, List.nil_append, List.append_eq, List.length_cons, List.length_nil, Nat.reduceAdd, Nat.reduceMul, Nat.reduceSub, Int.reduceAdd, Int.reduceSub, Int.reduceToNat, Int.reduceNeg, Int.reduceMul]) | refine W_plain rfl ?_ | refine and_chk (by kernel_rfl) ?_ | refine k_move rfl rfl ?_ | refine k_assign rfl rfl ?_ | refine k_load rfl rfl rfl rfl ?_ | refine k_box rfl rfl rfl ?_ | refine k_fieldAddr rfl rfl rfl ?_ | refine k_pickT rfl rfl rfl ?_ | refine k_pickF rfl rfl rfl ?_ | refine k_eqa rfl rfl rfl rfl rfl rfl ?_ | refine k_skip rfl ?_)
    (first | with_reducible refine q_endr ?_); refine rets1 Try.results52 (by first | exact RetV.tmp _ _ rfl | exact RetV.cell _ _ _ _ _ _ _ _ inferInstance rfl rfl rfl) ?_
    rfl
  repeat (first | with_reducible (first | refine W_seq ?_ | refine q_then ?_ | refine W_ret ?_) | (with_reducible refine R_nil ?_; try dsimp only [slots0, slots_ud, cells_U, agg_ud, drop0, dropS, takeS, take0, ud_nil, take_ud, take_ud0, drop_ud, drop_ud0, take_udk, D.cells, D.fz, D.fzs, List.take_succ_cons, List.take_zero, List.drop_succ_cons, List.drop_zero, List.cons_append, List.nil_append, List.append_eq, List.length_cons, List.length_nil, Nat.reduceAdd, Nat.reduceMul, Nat.reduceSub, Int.reduceAdd, Int.reduceSub, Int.reduceToNat, Int.reduceNeg, Int.reduceMul]) | refine W_plain rfl ?_ | refine and_chk (by kernel_rfl) ?_ | refine k_load rfl rfl rfl (ea _) ?_ | refine k_load rfl rfl rfl (eb _) ?_ | refine k_move rfl rfl ?_ | refine k_assign rfl rfl ?_ | refine k_load rfl rfl rfl rfl ?_ | refine k_box rfl rfl rfl ?_ | refine k_fieldAddr rfl rfl rfl ?_ | refine k_eqa rfl rfl rfl k1 k2 h4 ?_ | refine k_pickT rfl rfl rfl ?_ | refine k_pickF rfl rfl rfl ?_ | refine k_eqa rfl rfl rfl rfl rfl rfl ?_ | refine k_skip rfl ?_)
  cases c4
  · repeat (first | with_reducible (first | refine W_seq ?_ | refine q_then ?_ | refine W_ret ?_) | (with_reducible refine R_nil ?_; try dsimp only [slots0, slots_ud, cells_U, agg_ud, drop0, dropS, takeS, take0, ud_nil, take_ud, take_ud0, drop_ud, drop_ud0, take_udk, D.cells, D.fz, D.fzs, List.take_succ_cons, List.take_zero, List.drop_succ_cons, List.drop_zero, List.cons_append, List.nil_append, List.append_eq, List.length_cons, List.length_nil, Nat.reduceAdd, Nat.reduceMul, Nat.reduceSub, Int.reduceAdd, Int.reduceSub, Int.reduceToNat, Int.reduceNeg, Int.reduceMul]) | refine W_plain rfl ?_ | refine and_chk (by kernel_rfl) ?_ | refine k_move rfl rfl ?_ | refine k_assign rfl rfl ?_ | refine k_load rfl rfl rfl rfl ?_ | refine k_box rfl rfl rfl ?_ | refine k_fieldAddr rfl rfl rfl ?_ | refine k_pickT rfl rfl rfl ?_ | refine k_pickF rfl rfl rfl ?_ | refine k_eqa rfl rfl rfl rfl rfl rfl ?_ | refine k_skip rfl ?_)
    (first | with_reducible refine q_endr ?_); refine rets1 Try.results52 (by first | exact RetV.tmp _ _ rfl | exact RetV.cell _ _ _ _ _ _ _ _ inferInstance rfl rfl rfl) ?_
    rfl
  repeat (first | with_reducible (first | refine W_seq ?_ | refine q_then ?_ | refine W_ret ?_) | (with_reducible refine R_nil ?_; try dsimp only [slots0, slots_ud, cells_U, agg_ud, drop0, dropS, takeS, take0, ud_nil, take_ud, take_ud0, drop_ud, drop_ud0, take_udk, D.cells, D.fz, D.fzs, List.take_succ_cons, List.take_zero, List.drop_succ_cons, List.drop_zero, List.cons_append, List.nil_append, List.append_eq, List.length_cons, List.length_nil, Nat.reduceAdd, Nat.reduceMul, Nat.reduceSub, Int.reduceAdd, Int.reduceSub, Int.reduceToNat, Int.reduceNeg, Int.reduceMul]) | refine W_plain rfl ?_ | refine and_chk (by kernel_rfl) ?_ | refine k_load rfl rfl rfl (by exact ua _ _ rfl) ?_ | refine k_load rfl rfl rfl (by exact ub _ _ rfl) ?_ | refine k_move rfl rfl ?_ | refine k_assign rfl rfl ?_ | refine k_load rfl rfl rfl rfl ?_ | refine k_box rfl rfl rfl ?_ | refine k_fieldAddr rfl rfl rfl ?_ | refine k_eql rfl rfl rfl h5 ?_ | refine k_pickT rfl rfl rfl ?_ | refine k_pickF rfl rfl rfl ?_ | refine k_eqa rfl rfl rfl rfl rfl rfl ?_ | refine k_skip rfl ?_)
  cases c5
  · repeat (first | with_reducible (first | refine W_seq ?_ | refine q_then ?_ | refine W_ret ?_) | (with_reducible refine R_nil ?_; try dsimp only [slots0, slots_ud, cells_U, agg_ud, drop0, dropS, takeS, take0, ud_nil, take_ud, take_ud0, drop_ud, drop_ud0, take_udk, D.cells, D.fz, D.fzs, List.take_succ_cons, List.take_zero, List.drop_succ_cons, List.drop_zero, List.cons_append, List.nil_append, List.append_eq, List.length_cons, List.length_nil, Nat.reduceAdd, Nat.reduceMul, Nat.reduceSub, Int.reduceAdd, Int.reduceSub, Int.reduceToNat, Int.reduceNeg, Int.reduceMul]) | refine W_plain rfl ?_ | refine and_chk (by kernel_rfl) ?_ | refine k_move rfl rfl ?_ | refine k_assign rfl rfl ?_ | refine k_load rfl rfl rfl rfl ?_ | refine k_box rfl rfl rfl ?_ | refine k_fieldAddr rfl rfl rfl ?_ | refine k_pickT rfl rfl rfl ?_ | refine k_pickF rfl rfl rfl ?_ | refine k_eqa rfl rfl rfl rfl rfl rfl ?_ | refine k_skip rfl ?_)
    (first | with_reducible refine q_endr ?_); refine rets1 Try.results52 (by first | exact RetV.tmp _ _ rfl | exact RetV.cell _ _ _ _ _ _ _ _ inferInstance rfl rfl rfl) ?_
    rfl
  repeat (first | with_reducible (first | refine W_seq ?_ | refine q_then ?_ | refine W_ret ?_) | (with_reducible refine R_nil ?_; try dsimp only [slots0, slots_ud, cells_U, agg_ud, drop0, dropS, takeS, take0, ud_nil, take_ud, take_ud0, drop_ud, drop_ud0, take_udk, D.cells, D.fz, D.fzs, List.take_succ_cons, List.take_zero, List.drop_succ_cons, List.drop_zero, List.cons_append, List.nil_append, List.append_eq, List.length_cons, List.length_nil, Nat.reduceAdd, Nat.reduceMul, Nat.reduceSub, Int.reduceAdd, Int.reduceSub, Int.reduceToNat, Int.reduceNeg, Int.reduceMul]) | refine W_plain rfl ?_ | refine and_chk (by kernel_rfl) ?_ | refine k_load rfl rfl rfl (by exact va _ _ rfl) ?_ | refine k_load rfl rfl rfl (by exact vb _ _ rfl) ?_ | refine k_move rfl rfl ?_ | refine k_assign rfl rfl ?_ | refine k_load rfl rfl rfl rfl ?_ | refine k_box rfl rfl rfl ?_ | refine k_fieldAddr rfl rfl rfl ?_ | refine k_eql rfl rfl rfl h6 ?_ | refine k_pickT rfl rfl rfl ?_ | refine k_pickF rfl rfl rfl ?_ | refine k_eqa rfl rfl rfl rfl rfl rfl ?_ | refine k_skip rfl ?_)
  cases c6
  · repeat (first | with_reducible (first | refine W_seq ?_ | refine q_then ?_ | refine W_ret ?_) | (with_reducible refine R_nil ?_; try dsimp only [slots0, slots_ud, cells_U, agg_ud, drop0, dropS, takeS, take0, ud_nil, take_ud, take_ud0, drop_ud, drop_ud0, take_udk, D.cells, D.fz, D.fzs, List.take_succ_cons, List.take_zero, List.drop_succ_cons, List.drop_zero, List.cons_append, List.nil_append, List.append_eq, List.length_cons, List.length_nil, Nat.reduceAdd, Nat.reduceMul, Nat.reduceSub, Int.reduceAdd, Int.reduceSub, Int.reduceToNat, Int.reduceNeg, Int.reduceMul]) | refine W_plain rfl ?_ | refine and_chk (by kernel_rfl) ?_ | refine k_move rfl rfl ?_ | refine k_assign rfl rfl ?_ | refine k_load rfl rfl rfl rfl ?_ | refine k_box rfl rfl rfl ?_ | refine k_fieldAddr rfl rfl rfl ?_ | refine k_pickT rfl rfl rfl ?_ | refine k_pickF rfl rfl rfl ?_ | refine k_eqa rfl rfl rfl rfl rfl rfl ?_ | refine k_skip rfl ?_)
    (first | with_reducible refine q_endr ?_); refine rets1 Try.results52 (by first | exact RetV.tmp _ _ rfl | exact RetV.cell _ _ _ _ _ _ _ _ inferInstance rfl rfl rfl) ?_
    rfl
  repeat (first | with_reducible (first | refine W_seq ?_ | refine q_then ?_ | refine W_ret ?_) | (with_reducible refine R_nil ?_; try dsimp only [slots0, slots_ud, cells_U, agg_ud, drop0, dropS, takeS, take0, ud_nil, take_ud, take_ud0, drop_ud, drop_ud0, take_udk, D.cells, D.fz, D.fzs, List.take_succ_cons, List.take_zero, List.drop_succ_cons, List.drop_zero, List.cons_append, List.nil_append, List.append_eq, List.length_cons, List.length_nil, Nat.reduceAdd, Nat.reduceMul, Nat.reduceSub, Int.reduceAdd, Int.reduceSub, Int.reduceToNat, Int.reduceNeg, Int.reduceMul]) | refine W_plain rfl ?_ | refine and_chk (by kernel_rfl) ?_ | refine k_load rfl rfl rfl (by exact da _ _ rfl) ?_ | refine k_load rfl rfl rfl (by exact db _ _ rfl) ?_ | refine k_move rfl rfl ?_ | refine k_assign rfl rfl ?_ | refine k_load rfl rfl rfl rfl ?_ | refine k_box rfl rfl rfl ?_ | refine k_fieldAddr rfl rfl rfl ?_ | refine k_b2s rfl Try.underlying9 Try.underlying5 rfl rfl ?_ | refine k_eqs rfl rfl rfl h7 ?_ | refine k_pickT rfl rfl rfl ?_ | refine k_pickF rfl rfl rfl ?_ | refine k_eqa rfl rfl rfl rfl rfl rfl ?_ | refine k_skip rfl ?_)
  (first | with_reducible refine q_endr ?_); refine rets1 Try.results52 (by first | exact RetV.tmp _ _ rfl | exact RetV.cell _ _ _ _ _ _ _ _ inferInstance rfl rfl rfl) ?_
  rfl
end Go.Proofs.Ytcfefmbbbfdppaa
