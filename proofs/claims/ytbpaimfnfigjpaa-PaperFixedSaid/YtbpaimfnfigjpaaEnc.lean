/- Papers as bytes: fault and Encode of one that may be. Conditions: its numbers are in their bounds; at most nineteen signatures. -/
import Derived.Test.YtbpaimfnfigjpaaPaper1
import Derived.Test.YtbpaimfnfigjpaaFlat
import Derived.Test.YtbpaimfnfigjpaaDMi
namespace Go.Proofs.Ytbpaimfnfigjpaa
open Go.RowKit Go.Lib Go.IntWalk
set_option linter.unusedVariables false
set_option maxRecDepth 100000

/-- a signature on a paper -/
structure SgT where
  w : Nat
  r : Nat
  s : Nat
  o : Nat
structure SgT.ok (x : SgT) : Prop where
  w : x.w ≤ 255
  r : x.r < M256
  s : x.s < M256
  o : x.o ≤ 255
def sgC (w : Int) (r s : Nat) (o : Int) : List D := .int .i64 w :: (ud r ++ (ud s ++ [.int .i64 o]))
theorem sgC_len (w : Int) (r s : Nat) (o : Int) : (sgC w r s o).length = 10 := rfl
def SgT.cells (s : SgT) : List D := sgC s.w s.r s.s s.o
def SgT.out (s : SgT) : List UInt8 := toB 1 s.w ++ b32 s.r ++ b32 s.s ++ toB 1 s.o
theorem SgT.out_len (s : SgT) : s.out.length = 66 := by
  unfold SgT.out b32
  simp only [List.length_append, toB_len]
def sgsC (l : List SgT) : List D := l.flatMap SgT.cells
theorem sgsC_len (l : List SgT) : (sgsC l).length = l.length * 10 := fl_len (f := SgT.cells) (s := 10) (fun _ => rfl) l
theorem sgsC_cut (l : List SgT) (k : Nat) (e : SgT) (h : l[k]? = some e) (ze : List D) : cut ⟨true, 10, ze⟩ 0 ((sgsC l).drop ((k : Int).toNat * 10)) = some (.agg e.cells) := by
  have hlt := (List.getElem?_eq_some_iff.1 h).1
  unfold cut
  simp only [cond_true, Int.toNat_natCast, Nat.zero_add, List.length_drop, sgsC_len, List.drop_zero]
  rw [Nat.ble_eq_true_of_le (by omega), cond_true]
  unfold sgsC
  rw [fl_at (f := SgT.cells) (s := 10) (fun _ => rfl) l k e h]
/-- a paper's cells: its set, its signatures, its message -/
def ppC (set : Int) (n : Nat) (z : List D) (x : List D) : List D := .int .i64 set :: .slice .frozen n z :: x
structure PapT where
  set : Nat
  sg : List SgT
  b : BodyT
structure PapT.ok (p : PapT) : Prop where
  set : p.set ≤ 4294967295
  n : p.sg.length ≤ 19
  sg : ∀ s ∈ p.sg, s.ok
  b : p.b.ok
def PapT.cells (p : PapT) : List D := ppC p.set p.sg.length (sgsC p.sg) p.b.cells
def sgOut (l : List SgT) : List UInt8 := l.flatMap SgT.out
theorem sgOut_len (l : List SgT) : (sgOut l).length = l.length * 66 := fl_len (f := SgT.out) (s := 66) SgT.out_len l
def PapT.out (p : PapT) : List UInt8 := toB 1 1 ++ toB 4 p.set ++ toB 1 p.sg.length ++ sgOut p.sg ++ p.b.out

section
variable {x : List D} (hx : x.length = 38)
include hx
theorem pp_len (set : Int) (n : Nat) (z : List D) : (ppC set n z x).length = 40 := by unfold ppC; simp [hx]
theorem pp_all (set : Int) (n : Nat) (z : List D) (ze : List D) : cut ⟨true, 40, ze⟩ 0 (ppC set n z x) = some (.agg (ppC set n z x)) := by
  unfold cut
  simp only [cond_true, Nat.zero_add, List.drop_zero]
  rw [pp_len hx, List.take_of_length_le (by rw [pp_len hx]; exact Nat.le_refl _)]
  rfl
theorem pp_b (set : Int) (n : Nat) (z : List D) (ze : List D) : cut ⟨true, 38, ze⟩ 2 (ppC set n z x) = some (.agg x) := by
  unfold cut
  simp only [cond_true]
  rw [pp_len hx]
  have : ((ppC set n z x).drop 2).take 38 = x := by
    unfold ppC
    rw [List.drop_succ_cons, List.drop_succ_cons, List.drop_zero, List.take_of_length_le (by omega)]
  rw [this]; rfl
end
theorem pp_cl (set : Int) (n : Nat) (z x : List D) (h : D.cls x = true) : D.cls (ppC set n z x) = true := by
  show (true && (true && D.cls x)) = true
  rw [h]; rfl

set_option maxHeartbeats 8000000 in
theorem fault_ok (q : PapT) (h : q.ok) : Pur Try.prog 20 [.agg q.cells] (.int .i64 0) := by
  have hb := bCheck_ok q.b h.b
  have hbl := bd_len h.b.e
  have hfz := bd_fz q.b
  have hcl := bd_cl q.b
  have hcx := bd_cls q.b
  have hset := h.set
  have hn := h.n
  have hsg := h.sg
  have hcut := sgsC_cut q.sg
  have hzl : q.sg.length * 10 = (sgsC q.sg).length := by rw [sgsC_len]
  have hall := pp_all hbl q.set q.sg.length (sgsC q.sg)
  have hpb := pp_b hbl q.set q.sg.length (sgsC q.sg)
  have h0 : ∀ ze, cut ⟨false, 1, ze⟩ 0 (ppC q.set q.sg.length (sgsC q.sg) q.b.cells) = some (.int .i64 q.set) := fun _ => rfl
  have h1 : ∀ ze, cut ⟨false, 1, ze⟩ 1 (ppC q.set q.sg.length (sgsC q.sg) q.b.cells) = some (.slice .frozen q.sg.length (sgsC q.sg)) := fun _ => rfl
  have hcp := pp_cl q.set q.sg.length (sgsC q.sg) q.b.cells hcx
  have hpl := pp_len hbl q.set q.sg.length (sgsC q.sg)
  unfold PapT.cells
  generalize ppC q.set q.sg.length (sgsC q.sg) q.b.cells = X at *
  generalize q.b.cells = x at *
  generalize sgsC q.sg = z at *
  obtain ⟨l, hl⟩ : ∃ l, q.sg = l := ⟨_, rfl⟩
  rw [hl] at hn hsg hcut hzl h1
  obtain ⟨L, hL⟩ : ∃ L, l.length = L := ⟨_, rfl⟩
  rw [hL] at hn hzl h1
  refine pur_intro Try.func20 rfl Try.ntmps20 rfl (by first | rfl | assumption | exact bs_cl _) fun B => ?_
  repeat (first | with_reducible (first | refine W_seq ?_ | refine q_then ?_ | refine q_thenr ?_ | refine q_thenx ?_ | refine W_block ?_ | refine q_block ?_ | refine q_blockr ?_ | refine q_blockx ?_ | refine W_ret ?_ | refine W_skip ?_ | refine W_label ?_ | refine W_exit ?_ | refine W_scope ?_ | refine q_scope ?_ | refine q_scoper ?_ | refine q_scopex ?_) | (with_reducible refine R_nil ?_; try dsimp only [slots0, slots_ud, cells_U, agg_ud, drop0, dropS, takeS, take0, ud_nil, take_ud, take_ud0, drop_ud, drop_ud0, take_udk, D.cells, D.fz, D.fzs, List.take_succ_cons, List.take_zero, List.drop_succ_cons, List.drop_zero, List.cons_append, List.nil_append, List.append_eq, List.length_cons, List.length_nil, Nat.reduceAdd, Nat.reduceMul, Nat.reduceSub, Int.reduceAdd, Int.reduceSub, Int.reduceToNat, Int.reduceNeg, Int.reduceMul]) | refine q_blocky rfl ?_ | refine W_plain rfl ?_ | refine W_drawn mixed rfl ?_ | refine and_chk (by kernel_rfl) ?_ | refine k_load rfl rfl rfl (by exact h0 _) ?_ | refine k_load rfl rfl rfl (by exact h1 _) ?_ | refine k_move rfl rfl ?_ | refine k_assign rfl rfl ?_ | refine k_load rfl rfl rfl rfl ?_ | refine k_alloc rfl ?_ | refine k_box rfl rfl rfl ?_ | refine k_store rfl rfl rfl rfl rfl rfl rfl ?_ | refine k_fieldAddr rfl rfl rfl ?_ | refine k_append rfl rfl rfl (by first | rfl | exact trivial | (show 0 < _; omega)) (by first | rfl | (simp <;> omega)) (by first | rfl | (simp <;> omega)) rfl (by omega) rfl rfl rfl ?_ | refine k_slice rfl rfl rfl rfl ⟨by omega, by omega, by omega⟩ rfl rfl rfl ?_ | refine k_slice3 rfl rfl rfl rfl rfl ⟨by omega, by omega, by omega⟩ rfl rfl rfl ?_ | refine k_sliceA rfl rfl rfl rfl ⟨by omega, by omega, by omega, by omega⟩ rfl rfl ?_ | refine k_sliceE rfl rfl rfl rfl ⟨by omega, by omega, by omega, by omega⟩ rfl rfl rfl rfl ?_ | refine k_indexAddr rfl rfl rfl ⟨by omega, by omega⟩ ?_ | refine k_indexAddrs rfl rfl rfl ⟨by omega, by omega⟩ rfl ?_ | refine k_loade rfl rfl rfl ?_ | refine k_fieldAddre rfl rfl rfl rfl ?_ | refine k_len rfl rfl ?_ | refine k_pickT rfl rfl rfl ?_ | refine k_pickF rfl rfl rfl ?_ | refine k_addi rfl rfl rfl (by omega) ?_ | refine k_lssT rfl rfl rfl (by omega) ?_ | refine k_lssF rfl rfl rfl (by omega) ?_ | refine k_gtrT rfl rfl rfl (by omega) ?_ | refine k_gtrF rfl rfl rfl (by omega) ?_ | refine k_skip rfl ?_ | refine k_skip0 rfl ?_ | refine k_pick rfl rfl rfl rfl rfl ?_ | refine W_yes rfl ?_ | refine W_no rfl ?_)
  refine W_loop (fun n' ρ m nx => ∃ j : Nat, j ≤ L ∧ n' = L - j ∧ ρ = [(20, .int .i64 (j : Int)), (19, .int .i64 (L : Int)), (18, .slice .frozen L z), (2, .int .i64 0), (1, .ptr 0 0)] ∧ m = [(0, some (.var 31 X))] ∧ nx = 1)
    ⟨_, _, _, _, (by repeat (first | exact trivial | refine ⟨⟨rfl, rfl⟩, ?_⟩ | refine ⟨⟨rfl, bs_bel _ _⟩, ?_⟩ | refine ⟨⟨rfl, arr_bels _ _ _⟩, ?_⟩)), (by exact ⟨⟨rfl, rfl, bels_cls _ _ hcp⟩, trivial⟩), 0, Nat.zero_le _, rfl, rfl, rfl, rfl⟩ ?_
  rintro n' ρ m nx ⟨j, hj, rfl, rfl, rfl, rfl⟩
  by_cases hlt : j < L
  · obtain ⟨e, he⟩ : ∃ e, l[j]? = some e := ⟨_, List.getElem?_eq_getElem (by omega)⟩
    have hc := hcut j e he
    have ho := hsg e (List.mem_of_getElem? he)
    obtain ⟨w, r, s, o⟩ := e
    have hc : ∀ ze, cut ⟨true, 10, ze⟩ 0 (z.drop ((j : Int).toNat * 10)) = some (.agg (sgC w r s o)) := hc
    have b1 : w ≤ 255 := ho.w
    have b2 : o ≤ 255 := ho.o
    repeat (first | with_reducible (first | refine W_seq ?_ | refine q_then ?_ | refine q_thenr ?_ | refine q_thenx ?_ | refine W_block ?_ | refine q_block ?_ | refine q_blockr ?_ | refine q_blockx ?_ | refine W_ret ?_ | refine W_skip ?_ | refine W_label ?_ | refine W_exit ?_ | refine W_scope ?_ | refine q_scope ?_ | refine q_scoper ?_ | refine q_scopex ?_) | (with_reducible refine R_nil ?_; try dsimp only [slots0, slots_ud, cells_U, agg_ud, drop0, dropS, takeS, take0, ud_nil, take_ud, take_ud0, drop_ud, drop_ud0, take_udk, D.cells, D.fz, D.fzs, List.take_succ_cons, List.take_zero, List.drop_succ_cons, List.drop_zero, List.cons_append, List.nil_append, List.append_eq, List.length_cons, List.length_nil, Nat.reduceAdd, Nat.reduceMul, Nat.reduceSub, Int.reduceAdd, Int.reduceSub, Int.reduceToNat, Int.reduceNeg, Int.reduceMul]) | refine q_blocky rfl ?_ | refine W_plain rfl ?_ | refine W_drawn mixed rfl ?_ | refine and_chk (by kernel_rfl) ?_ | refine k_indexAddrs rfl rfl rfl ⟨by omega, by omega⟩ hzl ?_ | refine k_loade rfl rfl (by exact hc _) ?_ | refine k_move rfl rfl ?_ | refine k_assign rfl rfl ?_ | refine k_load rfl rfl rfl rfl ?_ | refine k_alloc rfl ?_ | refine k_box rfl rfl rfl ?_ | refine k_store rfl rfl rfl rfl rfl rfl rfl ?_ | refine k_fieldAddr rfl rfl rfl ?_ | refine k_append rfl rfl rfl (by first | rfl | exact trivial | (show 0 < _; omega)) (by first | rfl | (simp <;> omega)) (by first | rfl | (simp <;> omega)) rfl (by omega) rfl rfl rfl ?_ | refine k_slice rfl rfl rfl rfl ⟨by omega, by omega, by omega⟩ rfl rfl rfl ?_ | refine k_slice3 rfl rfl rfl rfl rfl ⟨by omega, by omega, by omega⟩ rfl rfl rfl ?_ | refine k_sliceA rfl rfl rfl rfl ⟨by omega, by omega, by omega, by omega⟩ rfl rfl ?_ | refine k_sliceE rfl rfl rfl rfl ⟨by omega, by omega, by omega, by omega⟩ rfl rfl rfl rfl ?_ | refine k_indexAddr rfl rfl rfl ⟨by omega, by omega⟩ ?_ | refine k_indexAddrs rfl rfl rfl ⟨by omega, by omega⟩ rfl ?_ | refine k_loade rfl rfl rfl ?_ | refine k_fieldAddre rfl rfl rfl rfl ?_ | refine k_len rfl rfl ?_ | refine k_pickT rfl rfl rfl ?_ | refine k_pickF rfl rfl rfl ?_ | refine k_addi rfl rfl rfl (by omega) ?_ | refine k_lssT rfl rfl rfl (by omega) ?_ | refine k_lssF rfl rfl rfl (by omega) ?_ | refine k_gtrT rfl rfl rfl (by omega) ?_ | refine k_gtrF rfl rfl rfl (by omega) ?_ | refine k_skip rfl ?_ | refine k_skip0 rfl ?_ | refine k_pick rfl rfl rfl rfl rfl ?_ | refine W_yes rfl ?_ | refine W_no rfl ?_)
    exact ⟨L - (j + 1), _, _, _, (by repeat (first | exact trivial | refine ⟨⟨rfl, rfl⟩, ?_⟩ | refine ⟨⟨rfl, bs_bel _ _⟩, ?_⟩ | refine ⟨⟨rfl, arr_bels _ _ _⟩, ?_⟩)), (by exact ⟨⟨rfl, rfl, bels_cls _ _ hcp⟩, trivial⟩), by omega, j + 1, by omega, rfl, rfl, rfl, rfl⟩
  · have ej : j = L := by omega
    subst ej
    repeat (first | with_reducible (first | refine W_seq ?_ | refine q_then ?_ | refine q_thenr ?_ | refine q_thenx ?_ | refine W_block ?_ | refine q_block ?_ | refine q_blockr ?_ | refine q_blockx ?_ | refine W_ret ?_ | refine W_skip ?_ | refine W_label ?_ | refine W_exit ?_ | refine W_scope ?_ | refine q_scope ?_ | refine q_scoper ?_ | refine q_scopex ?_) | (with_reducible refine R_nil ?_; try dsimp only [slots0, slots_ud, cells_U, agg_ud, drop0, dropS, takeS, take0, ud_nil, take_ud, take_ud0, drop_ud, drop_ud0, take_udk, D.cells, D.fz, D.fzs, List.take_succ_cons, List.take_zero, List.drop_succ_cons, List.drop_zero, List.cons_append, List.nil_append, List.append_eq, List.length_cons, List.length_nil, Nat.reduceAdd, Nat.reduceMul, Nat.reduceSub, Int.reduceAdd, Int.reduceSub, Int.reduceToNat, Int.reduceNeg, Int.reduceMul]) | refine q_blocky rfl ?_ | refine W_plain rfl ?_ | refine W_drawn mixed rfl ?_ | refine and_chk (by kernel_rfl) ?_ | refine k_load rfl rfl rfl (by exact hpb _) ?_ | refine k_move rfl rfl ?_ | refine k_assign rfl rfl ?_ | refine k_load rfl rfl rfl rfl ?_ | refine k_alloc rfl ?_ | refine k_box rfl rfl rfl ?_ | refine k_store rfl rfl rfl rfl rfl rfl rfl ?_ | refine k_fieldAddr rfl rfl rfl ?_ | refine k_call rfl hb rfl hfz hcl rfl ?_ | refine k_append rfl rfl rfl (by first | rfl | exact trivial | (show 0 < _; omega)) (by first | rfl | (simp <;> omega)) (by first | rfl | (simp <;> omega)) rfl (by omega) rfl rfl rfl ?_ | refine k_slice rfl rfl rfl rfl ⟨by omega, by omega, by omega⟩ rfl rfl rfl ?_ | refine k_slice3 rfl rfl rfl rfl rfl ⟨by omega, by omega, by omega⟩ rfl rfl rfl ?_ | refine k_sliceA rfl rfl rfl rfl ⟨by omega, by omega, by omega, by omega⟩ rfl rfl ?_ | refine k_sliceE rfl rfl rfl rfl ⟨by omega, by omega, by omega, by omega⟩ rfl rfl rfl rfl ?_ | refine k_indexAddr rfl rfl rfl ⟨by omega, by omega⟩ ?_ | refine k_indexAddrs rfl rfl rfl ⟨by omega, by omega⟩ rfl ?_ | refine k_loade rfl rfl rfl ?_ | refine k_fieldAddre rfl rfl rfl rfl ?_ | refine k_len rfl rfl ?_ | refine k_pickT rfl rfl rfl ?_ | refine k_pickF rfl rfl rfl ?_ | refine k_addi rfl rfl rfl (by omega) ?_ | refine k_lssT rfl rfl rfl (by omega) ?_ | refine k_lssF rfl rfl rfl (by omega) ?_ | refine k_gtrT rfl rfl rfl (by omega) ?_ | refine k_gtrF rfl rfl rfl (by omega) ?_ | refine k_skip rfl ?_ | refine k_skip0 rfl ?_ | refine k_pick rfl rfl rfl rfl rfl ?_ | refine W_yes rfl ?_ | refine W_no rfl ?_)
    (first | with_reducible refine q_endr ?_ | with_reducible refine q_endn ?_); refine rets1 Try.results20 (by first | exact RetV.tmp _ _ rfl | exact RetV.cell _ _ _ _ _ _ _ _ inferInstance rfl rfl rfl) ?_
    rfl
end Go.Proofs.Ytbpaimfnfigjpaa
