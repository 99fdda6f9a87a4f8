/- sets: keys and Check of sets that may be. Conditions: as said. -/
import Derived.Test.YtokijcdanegooaaDRow
import Derived.Test.YtokijcdanegooaaDJoin
import Derived.Test.YtokijcdanegooaaDFunK
import Derived.Test.YtokijcdanegooaaDCls
import Derived.Test.YtokijcdanegooaaFlat
import Derived.Test.YtokijcdanegooaaDMi
import Derived.Test.YtokijcdanegooaaBytes
namespace Go.Proofs.Ytokijcdanegooaa
open Go.RowKit Go.Lib Go.IntWalk
set_option linter.unusedVariables false
set_option maxRecDepth 100000

theorem key_cut (a b : List UInt8) (ha : a.length = 20) (r : List D) (ze : List D) : cut ⟨true, 20, ze⟩ 0 (bs a ++ r) = some (.agg (bs a)) := by
  unfold cut
  simp only [cond_true, Nat.zero_add, List.drop_zero, List.length_append, bs_len, ha]
  rw [Nat.ble_eq_true_of_le (by omega), cond_true, List.take_append_of_le_length (by rw [bs_len, ha]; exact Nat.le_refl _), List.take_of_length_le (by rw [bs_len, ha]; exact Nat.le_refl _)]
theorem k_clen {a : List UInt8} (h : a.length = 20) : (D.agg (bs a)).cells.length = 20 := by show (bs a).length = 20; rw [bs_len, h]
theorem k_fits (a : List UInt8) : (D.agg (bs a)).fits = true := rfl
theorem k_put {a : List UInt8} (h : a.length = 20) (cs : List D) (hc : cs.length = 20) : splice 0 (bs a) cs = some (bs a) := by
  unfold splice
  rw [Nat.ble_eq_true_of_le (by rw [bs_len, h, hc]; exact Nat.le_refl _), cond_true, Nat.zero_add, List.drop_of_length_le (by rw [bs_len, h, hc]; exact Nat.le_refl _)]
  simp
theorem k_all {a : List UInt8} (h : a.length = 20) (ze : List D) : cut ⟨true, 20, ze⟩ 0 (bs a) = some (.agg (bs a)) := by
  have := key_cut a [] h [] ze
  rw [List.append_nil] at this; exact this
theorem lks_key (a : List UInt8) (ha : a.length = 20) : lks (bs a) = lks (bs (List.replicate 20 0)) := by
  have key : ∀ (n : Nat) (z : List UInt8), z.length = n → lks (bs z) = lks (bs (List.replicate n 0)) := by
    intro n
    induction n with
    | zero => intro z h; rw [List.eq_nil_of_length_eq_zero h]; rfl
    | succ n ih =>
      intro z h
      cases z with
      | nil => cases h
      | cons c z =>
        have := ih z (by simpa using h)
        show lks (D.int .u8 (c.toNat : Int) :: bs z) = lks (D.int .u8 _ :: bs (List.replicate n 0))
        unfold lks
        rw [this]; rfl
  exact key 20 a ha
set_option maxHeartbeats 8000000 in
theorem keys_one (a : List UInt8) (ha : a.length = 20) : Pur Try.prog 29 [.slice .frozen 1 (bs a)] (.int .i64 0) := by
  have hl : 1 * 20 = (bs a).length := by rw [bs_len, ha]
  have c0 : ∀ ze, cut ⟨true, 20, ze⟩ 0 ((bs a).drop ((0 : Int).toNat * 20)) = some (.agg (bs a)) := fun ze => by
    have := key_cut a [] ha [] ze
    rw [List.append_nil] at this; exact this
  refine pur_intro Try.func29 rfl Try.ntmps29 rfl (by first | rfl | assumption | exact bs_cl _) fun B => ?_
  repeat (first | with_reducible (first | refine W_seq ?_ | refine q_then ?_ | refine q_thenr ?_ | refine q_thenx ?_ | refine W_block ?_ | refine q_block ?_ | refine q_blockr ?_ | refine q_blockx ?_ | refine W_ret ?_ | refine W_skip ?_ | refine W_label ?_ | refine W_exit ?_ | refine W_scope ?_ | refine q_scope ?_ | refine q_scoper ?_ | refine q_scopex ?_) | (with_reducible refine R_nil ?_; try dsimp only [slots0, slots_ud, cells_U, agg_ud, drop0, dropS, takeS, take0, ud_nil, take_ud, take_ud0, drop_ud, drop_ud0, take_udk, D.cells, D.fz, D.fzs, List.take_succ_cons, List.take_zero, List.drop_succ_cons, List.drop_zero, List.cons_append, List.nil_append, List.append_eq, List.length_cons, List.length_nil, Nat.reduceAdd, Nat.reduceMul, Nat.reduceSub, Int.reduceAdd, Int.reduceSub, Int.reduceToNat, Int.reduceNeg, Int.reduceMul]) | refine q_blocky rfl ?_ | refine W_plain rfl ?_ | refine W_drawn mixed rfl ?_ | refine and_chk (by kernel_rfl) ?_ | refine k_indexAddrs rfl rfl rfl ⟨by omega, by omega⟩ hl ?_ | refine k_loade rfl rfl (by exact c0 _) ?_ | refine k_store rfl rfl rfl rfl (k_clen ha) (k_fits _) (k_put ha _ rfl) ?_ | refine k_slice rfl rfl rfl rfl ⟨by omega, by omega, by omega⟩ (by exact hl) rfl rfl ?_ | refine k_move rfl rfl ?_ | refine k_assign rfl rfl ?_ | refine k_load rfl rfl rfl rfl ?_ | refine k_alloc rfl ?_ | refine k_store rfl rfl rfl rfl rfl rfl rfl ?_ | refine W_unroll (WL_round ?_) | refine WL_round ?_ | refine k_append rfl rfl rfl (by first | rfl | exact trivial | (show 0 < _; omega)) (by first | rfl | (simp <;> omega)) (by first | rfl | (simp <;> omega)) rfl (by omega) rfl rfl rfl ?_ | refine k_slice rfl rfl rfl rfl ⟨by omega, by omega, by omega⟩ rfl rfl rfl ?_ | refine k_slice3 rfl rfl rfl rfl rfl ⟨by omega, by omega, by omega⟩ rfl rfl rfl ?_ | refine k_sliceA rfl rfl rfl rfl ⟨by omega, by omega, by omega, by omega⟩ rfl rfl ?_ | refine k_sliceE rfl rfl rfl rfl ⟨by omega, by omega, by omega, by omega⟩ rfl rfl rfl rfl ?_ | refine k_indexAddr rfl rfl rfl ⟨by omega, by omega⟩ ?_ | refine k_indexAddrs rfl rfl rfl ⟨by omega, by omega⟩ rfl ?_ | refine k_loade rfl rfl rfl ?_ | refine k_len rfl rfl ?_ | refine k_pickT rfl rfl rfl ?_ | refine k_pickF rfl rfl rfl ?_ | refine k_addi rfl rfl rfl (by omega) ?_ | refine k_lssT rfl rfl rfl (by omega) ?_ | refine k_lssF rfl rfl rfl (by omega) ?_ | refine k_gtrT rfl rfl rfl (by omega) ?_ | refine k_gtrF rfl rfl rfl (by omega) ?_ | refine k_eqlT rfl rfl rfl (by omega) ?_ | refine k_eqlF rfl rfl rfl (by omega) ?_ | refine k_eqa rfl rfl rfl rfl rfl rfl ?_ | refine k_skip rfl ?_ | refine k_skip0 rfl ?_ | refine k_pick rfl rfl rfl rfl rfl ?_ | refine W_yes rfl ?_ | refine W_no rfl ?_)
  (first | with_reducible refine q_endr ?_ | with_reducible refine q_endn ?_); refine rets1 Try.results29 (by first | exact RetV.tmp _ _ rfl | exact RetV.cell _ _ _ _ _ _ _ _ inferInstance rfl rfl rfl) ?_
  rfl
theorem deqs_bs : ∀ (x y : List UInt8), x.length = y.length → deqs (bs x) (bs y) = decide (x = y)
  | [], [], _ => rfl
  | [], b :: y, h => by simp at h
  | a :: x, [], h => by simp at h
  | a :: x, b :: y, h => by
    show (deq1 (.int .u8 _) (.int .u8 _) && deqs (bs x) (bs y)) = _
    rw [deqs_bs x y (by simpa using h)]
    simp only [deq1]
    rw [Bool.eq_iff_iff]
    simp only [Bool.and_eq_true, decide_eq_true_eq, beq_iff_eq, List.cons.injEq]
    constructor
    · rintro ⟨h1, h2⟩; exact ⟨UInt8.toNat_inj.1 (by omega), h2⟩
    · rintro ⟨rfl, rfl⟩; simp
theorem deqs_key (a b : List UInt8) (ha : a.length = 20) (hb : b.length = 20) (h : a ≠ b) : deqs (bs a) (bs b) = false := by
  rw [deqs_bs _ _ (by rw [ha, hb])]
  exact decide_eq_false h
set_option maxHeartbeats 8000000 in
theorem keys_two (a b : List UInt8) (ha : a.length = 20) (hb : b.length = 20) (hab : b ≠ a) : Pur Try.prog 29 [.slice .frozen 2 (bs a ++ bs b)] (.int .i64 0) := by
  have hl : 2 * 20 = (bs a ++ bs b).length := by rw [List.length_append, bs_len, bs_len, ha, hb]
  have c0 : ∀ ze, cut ⟨true, 20, ze⟩ 0 ((bs a ++ bs b).drop ((0 : Int).toNat * 20)) = some (.agg (bs a)) := fun ze => key_cut a b ha (bs b) ze
  have c1 : ∀ ze, cut ⟨true, 20, ze⟩ 0 ((bs a ++ bs b).drop ((1 : Int).toNat * 20)) = some (.agg (bs b)) := fun ze => by
    rw [List.drop_append, List.drop_of_length_le (by rw [bs_len, ha]; decide), bs_len, ha]
    have := key_cut b [] hb [] ze
    rw [List.append_nil] at this; exact this
  have hdq := deqs_key b a hb ha hab
  have l1 := lks_key a ha
  have l2 := lks_key b hb
  have hs : ((bs a ++ bs b).drop ((0 : Int).toNat * 20)).take (1 * 20) = bs a := by
    rw [show (0 : Int).toNat * 20 = 0 from rfl, List.drop_zero, List.take_append_of_le_length (by rw [bs_len, ha]; decide), List.take_of_length_le (by rw [bs_len, ha]; decide)]
  have hl1 : 1 * 20 = (bs a).length := by rw [bs_len, ha]
  have d0 : ∀ ze, cut ⟨true, 20, ze⟩ 0 ((bs a).drop ((0 : Int).toNat * 20)) = some (.agg (bs a)) := fun ze => by
    have := key_cut a [] ha [] ze
    rw [List.append_nil] at this; exact this
  generalize bs a ++ bs b = z at *
  refine pur_intro Try.func29 rfl Try.ntmps29 rfl (by first | rfl | assumption | exact bs_cl _) fun B => ?_
  repeat (first | with_reducible (first | refine W_seq ?_ | refine q_then ?_ | refine q_thenr ?_ | refine q_thenx ?_ | refine W_block ?_ | refine q_block ?_ | refine q_blockr ?_ | refine q_blockx ?_ | refine W_ret ?_ | refine W_skip ?_ | refine W_label ?_ | refine W_exit ?_ | refine W_scope ?_ | refine q_scope ?_ | refine q_scoper ?_ | refine q_scopex ?_) | (with_reducible refine R_nil ?_; try dsimp only [slots0, slots_ud, cells_U, agg_ud, drop0, dropS, takeS, take0, ud_nil, take_ud, take_ud0, drop_ud, drop_ud0, take_udk, D.cells, D.fz, D.fzs, List.take_succ_cons, List.take_zero, List.drop_succ_cons, List.drop_zero, List.cons_append, List.nil_append, List.append_eq, List.length_cons, List.length_nil, Nat.reduceAdd, Nat.reduceMul, Nat.reduceSub, Int.reduceAdd, Int.reduceSub, Int.reduceToNat, Int.reduceNeg, Int.reduceMul]) | refine q_blocky rfl ?_ | refine W_plain rfl ?_ | refine W_drawn mixed rfl ?_ | refine and_chk (by kernel_rfl) ?_ | refine k_indexAddrs rfl rfl rfl ⟨by omega, by omega⟩ hl ?_ | refine k_indexAddrs rfl rfl rfl ⟨by omega, by omega⟩ hl1 ?_ | refine k_loade rfl rfl (by exact c0 _) ?_ | refine k_loade rfl rfl (by exact c1 _) ?_ | refine k_loade rfl rfl (by exact d0 _) ?_ | refine k_slice (nn := 1) rfl rfl rfl rfl ⟨by omega, by omega, by omega⟩ (by exact hl) (by decide) (by exact hs) ?_ | refine k_slice rfl rfl rfl rfl ⟨by omega, by omega, by omega⟩ (by exact hl) rfl rfl ?_ | refine k_load rfl rfl rfl (by exact k_all ha _) ?_ | refine k_load rfl rfl rfl (by exact k_all hb _) ?_ | refine k_store rfl rfl rfl rfl (k_clen ha) (k_fits _) (k_put ha _ rfl) ?_ | refine k_store rfl rfl rfl rfl (k_clen hb) (k_fits _) (k_put hb _ rfl) ?_ | refine k_move rfl rfl ?_ | refine k_assign rfl rfl ?_ | refine k_load rfl rfl rfl rfl ?_ | refine k_alloc rfl ?_ | refine k_store rfl rfl rfl rfl rfl rfl rfl ?_ | refine k_eqa rfl rfl rfl l2 l1 hdq ?_ | refine W_unroll (WL_round ?_) | refine WL_round ?_ | refine k_append rfl rfl rfl (by first | rfl | exact trivial | (show 0 < _; omega)) (by first | rfl | (simp <;> omega)) (by first | rfl | (simp <;> omega)) rfl (by omega) rfl rfl rfl ?_ | refine k_slice rfl rfl rfl rfl ⟨by omega, by omega, by omega⟩ rfl rfl rfl ?_ | refine k_slice3 rfl rfl rfl rfl rfl ⟨by omega, by omega, by omega⟩ rfl rfl rfl ?_ | refine k_sliceA rfl rfl rfl rfl ⟨by omega, by omega, by omega, by omega⟩ rfl rfl ?_ | refine k_sliceE rfl rfl rfl rfl ⟨by omega, by omega, by omega, by omega⟩ rfl rfl rfl rfl ?_ | refine k_indexAddr rfl rfl rfl ⟨by omega, by omega⟩ ?_ | refine k_indexAddrs rfl rfl rfl ⟨by omega, by omega⟩ rfl ?_ | refine k_loade rfl rfl rfl ?_ | refine k_len rfl rfl ?_ | refine k_pickT rfl rfl rfl ?_ | refine k_pickF rfl rfl rfl ?_ | refine k_addi rfl rfl rfl (by omega) ?_ | refine k_lssT rfl rfl rfl (by omega) ?_ | refine k_lssF rfl rfl rfl (by omega) ?_ | refine k_gtrT rfl rfl rfl (by omega) ?_ | refine k_gtrF rfl rfl rfl (by omega) ?_ | refine k_eqlT rfl rfl rfl (by omega) ?_ | refine k_eqlF rfl rfl rfl (by omega) ?_ | refine k_eqa rfl rfl rfl rfl rfl rfl ?_ | refine k_skip rfl ?_ | refine k_skip0 rfl ?_ | refine k_pick rfl rfl rfl rfl rfl ?_ | refine W_yes rfl ?_ | refine W_no rfl ?_)
  (first | with_reducible refine q_endr ?_ | with_reducible refine q_endn ?_); refine rets1 Try.results29 (by first | exact RetV.tmp _ _ rfl | exact RetV.cell _ _ _ _ _ _ _ _ inferInstance rfl rfl rfl) ?_
  rfl
/-- a set -/
structure SeT where
  i : Nat
  n : Nat
  z : List D
  u : Nat
def SeT.cells (s : SeT) : List D := [.int .i64 s.i, .slice .frozen s.n s.z, .int .i64 s.u]
def ssC (l : List SeT) : List D := l.flatMap SeT.cells
theorem ssC_len (l : List SeT) : (ssC l).length = l.length * 3 := fl_len (f := SeT.cells) (s := 3) (fun _ => rfl) l
theorem ssC_cls : ∀ (l : List SeT), D.cls (ssC l) = true
  | [] => rfl
  | a :: l => by
    show (true && (true && (true && D.cls (ssC l)))) = true
    rw [ssC_cls l]; rfl
theorem ssC_cut (l : List SeT) (j : Nat) (s : SeT) (h : l[j]? = some s) (ze : List D) : cut ⟨true, 3, ze⟩ 0 ((ssC l).drop ((j : Int).toNat * 3)) = some (.agg s.cells) := by
  have hlt := (List.getElem?_eq_some_iff.1 h).1
  unfold cut
  simp only [cond_true, Int.toNat_natCast, Nat.zero_add, List.length_drop, ssC_len, List.drop_zero]
  rw [Nat.ble_eq_true_of_le (by omega), cond_true]
  unfold ssC
  rw [fl_at (f := SeT.cells) (s := 3) (fun _ => rfl) l j s h]
/-- a set whose keys may be -/
structure SeT.ok (s : SeT) : Prop where
  k : Pur Try.prog 29 [.slice .frozen s.n s.z] (.int .i64 0)
  z : s.n * 20 = s.z.length
  n : s.n ≤ 19
/-- sets that may be -/
structure Sets (l : List SeT) : Prop where
  len : 1 ≤ l.length ∧ l.length ≤ 8
  at_ : ∀ j s, l[j]? = some s → s.i = j ∧ s.ok ∧ s.u ≤ 1099511627800 ∧ (s.u = 0 ↔ j + 1 = l.length)
  ord : ∀ j s t, l[j]? = some s → l[j + 1]? = some t → t.u = 0 ∨ s.u ≤ t.u
set_option maxHeartbeats 8000000 in
theorem Check_ok (l : List SeT) (h : Sets l) (n : Nat) (hn : l.length = n) : Pur Try.prog 15 [.slice .frozen n (ssC l)] (.int .i64 0) := by
  obtain ⟨hl1, hl8⟩ := h.len
  have hat := h.at_
  have hord := h.ord
  have hcut := ssC_cut l
  have hzl : n * 3 = (ssC l).length := by rw [ssC_len, hn]
  rw [hn] at hl1 hl8 hat
  generalize ssC l = z at *
  refine pur_intro Try.func15 rfl Try.ntmps15 rfl (by first | rfl | assumption | exact bs_cl _) fun B => ?_
  repeat (first | with_reducible (first | refine W_seq ?_ | refine q_then ?_ | refine q_thenr ?_ | refine q_thenx ?_ | refine W_block ?_ | refine q_block ?_ | refine q_blockr ?_ | refine q_blockx ?_ | refine W_ret ?_ | refine W_skip ?_ | refine W_label ?_ | refine W_exit ?_ | refine W_scope ?_ | refine q_scope ?_ | refine q_scoper ?_ | refine q_scopex ?_) | (with_reducible refine R_nil ?_; try dsimp only [slots0, slots_ud, cells_U, agg_ud, drop0, dropS, takeS, take0, ud_nil, take_ud, take_ud0, drop_ud, drop_ud0, take_udk, D.cells, D.fz, D.fzs, List.take_succ_cons, List.take_zero, List.drop_succ_cons, List.drop_zero, List.cons_append, List.nil_append, List.append_eq, List.length_cons, List.length_nil, Nat.reduceAdd, Nat.reduceMul, Nat.reduceSub, Int.reduceAdd, Int.reduceSub, Int.reduceToNat, Int.reduceNeg, Int.reduceMul]) | refine q_blocky rfl ?_ | refine W_plain rfl ?_ | refine W_drawn mixed rfl ?_ | refine and_chk (by kernel_rfl) ?_ | refine k_move rfl rfl ?_ | refine k_assign rfl rfl ?_ | refine k_load rfl rfl rfl rfl ?_ | refine k_alloc rfl ?_ | refine k_store rfl rfl rfl rfl rfl rfl rfl ?_ | refine k_fieldAddr rfl rfl rfl ?_ | refine k_append rfl rfl rfl (by first | rfl | exact trivial | (show 0 < _; omega)) (by first | rfl | (simp <;> omega)) (by first | rfl | (simp <;> omega)) rfl (by omega) rfl rfl rfl ?_ | refine k_slice rfl rfl rfl rfl ⟨by omega, by omega, by omega⟩ rfl rfl rfl ?_ | refine k_slice3 rfl rfl rfl rfl rfl ⟨by omega, by omega, by omega⟩ rfl rfl rfl ?_ | refine k_sliceA rfl rfl rfl rfl ⟨by omega, by omega, by omega, by omega⟩ rfl rfl ?_ | refine k_sliceE rfl rfl rfl rfl ⟨by omega, by omega, by omega, by omega⟩ rfl rfl rfl rfl ?_ | refine k_indexAddr rfl rfl rfl ⟨by omega, by omega⟩ ?_ | refine k_indexAddrs rfl rfl rfl ⟨by omega, by omega⟩ rfl ?_ | refine k_loade rfl rfl rfl ?_ | refine k_fieldAddre rfl rfl rfl rfl ?_ | refine k_len rfl rfl ?_ | refine k_pickT rfl rfl rfl ?_ | refine k_pickF rfl rfl rfl ?_ | refine k_addi rfl rfl rfl (by omega) ?_ | refine k_subi rfl rfl rfl (by omega) ?_ | refine k_lssT rfl rfl rfl (by omega) ?_ | refine k_lssF rfl rfl rfl (by omega) ?_ | refine k_gtrT rfl rfl rfl (by omega) ?_ | refine k_gtrF rfl rfl rfl (by omega) ?_ | refine k_eqlT rfl rfl rfl (by omega) ?_ | refine k_eqlF rfl rfl rfl (by omega) ?_ | refine k_neqT rfl rfl rfl (by omega) ?_ | refine k_neqF rfl rfl rfl (by omega) ?_ | refine k_eqa rfl rfl rfl rfl rfl rfl ?_ | refine k_nea rfl rfl rfl rfl rfl rfl ?_ | refine k_skip rfl ?_ | refine k_skip0 rfl ?_ | refine k_pick rfl rfl rfl rfl rfl ?_ | refine W_yes rfl ?_ | refine W_no rfl ?_)
  refine W_loop (fun n' ρ m nx => ∃ j last : Nat, j ≤ n ∧ (∀ s, l[j]? = some s → s.u = 0 ∨ last ≤ s.u) ∧ n' = n - j ∧ ρ = [(17, .int .i64 (j : Int)), (16, .int .i64 (n : Int)), (15, .slice .frozen n z), (3, .int .i64 (last : Int)), (2, .int .i64 0), (0, .slice .frozen n z)] ∧ m = [] ∧ nx = 0)
    ⟨_, _, _, _, (by repeat (first | exact trivial | refine ⟨⟨rfl, rfl⟩, ?_⟩ | refine ⟨⟨rfl, bs_bel _ _⟩, ?_⟩ | refine ⟨⟨rfl, arr_bels _ _ _⟩, ?_⟩)), (by repeat (first | exact trivial | refine ⟨⟨rfl, rfl, rfl⟩, ?_⟩ | refine ⟨⟨rfl, rfl, bs_bels _ _⟩, ?_⟩ | refine ⟨⟨rfl, rfl, arr_bels _ _ _⟩, ?_⟩)), 0, 0, Nat.zero_le _, fun s _ => .inr (Nat.zero_le _), rfl, rfl, rfl, rfl⟩ ?_
  rintro n' ρ m nx ⟨j, last, hj, hlast, rfl, rfl, rfl, rfl⟩
  by_cases hlt : j < n
  · obtain ⟨s, hs⟩ : ∃ s, l[j]? = some s := ⟨_, List.getElem?_eq_getElem (by omega)⟩
    obtain ⟨a1, a2, a3, a4⟩ := hat j s hs
    have hc := hcut j s hs
    have hl := hlast s hs
    have hnext := hord j s
    have hk := a2.k
    obtain ⟨si, sn, sz, su⟩ := s
    dsimp only at a1 a3 a4 hl hk hnext
    have hc : ∀ ze, cut ⟨true, 3, ze⟩ 0 (z.drop ((j : Int).toNat * 3)) = some (.agg [.int .i64 si, .slice .frozen sn sz, .int .i64 su]) := hc
    have hcase : (j + 1 = n ∧ su = 0) ∨ (j + 1 < n ∧ su ≠ 0 ∧ last ≤ su) := by
      by_cases hz : su = 0
      · exact .inl ⟨a4.1 hz, hz⟩
      · have : j + 1 ≠ n := fun h => hz (a4.2 h)
        exact .inr ⟨by omega, hz, hl.resolve_left hz⟩
    clear hat hcut hlast hord a4 hl
    subst a1
    rcases hcase with ⟨e1, rfl⟩ | ⟨e1, e2, e3⟩
    · repeat (first | with_reducible (first | refine W_seq ?_ | refine q_then ?_ | refine q_thenr ?_ | refine q_thenx ?_ | refine W_block ?_ | refine q_block ?_ | refine q_blockr ?_ | refine q_blockx ?_ | refine W_ret ?_ | refine W_skip ?_ | refine W_label ?_ | refine W_exit ?_ | refine W_scope ?_ | refine q_scope ?_ | refine q_scoper ?_ | refine q_scopex ?_) | (with_reducible refine R_nil ?_; try dsimp only [slots0, slots_ud, cells_U, agg_ud, drop0, dropS, takeS, take0, ud_nil, take_ud, take_ud0, drop_ud, drop_ud0, take_udk, D.cells, D.fz, D.fzs, List.take_succ_cons, List.take_zero, List.drop_succ_cons, List.drop_zero, List.cons_append, List.nil_append, List.append_eq, List.length_cons, List.length_nil, Nat.reduceAdd, Nat.reduceMul, Nat.reduceSub, Int.reduceAdd, Int.reduceSub, Int.reduceToNat, Int.reduceNeg, Int.reduceMul]) | refine q_blocky rfl ?_ | refine W_plain rfl ?_ | refine W_drawn mixed rfl ?_ | refine and_chk (by kernel_rfl) ?_ | refine k_indexAddrs rfl rfl rfl ⟨by omega, by omega⟩ hzl ?_ | refine k_loade rfl rfl (by exact hc _) ?_ | refine k_move rfl rfl ?_ | refine k_assign rfl rfl ?_ | refine k_load rfl rfl rfl rfl ?_ | refine k_alloc rfl ?_ | refine k_store rfl rfl rfl rfl rfl rfl rfl ?_ | refine k_fieldAddr rfl rfl rfl ?_ | refine k_call rfl hk rfl rfl rfl rfl ?_ | refine k_neb rfl Try.underlying4 rfl rfl rfl ?_ | refine k_append rfl rfl rfl (by first | rfl | exact trivial | (show 0 < _; omega)) (by first | rfl | (simp <;> omega)) (by first | rfl | (simp <;> omega)) rfl (by omega) rfl rfl rfl ?_ | refine k_slice rfl rfl rfl rfl ⟨by omega, by omega, by omega⟩ rfl rfl rfl ?_ | refine k_slice3 rfl rfl rfl rfl rfl ⟨by omega, by omega, by omega⟩ rfl rfl rfl ?_ | refine k_sliceA rfl rfl rfl rfl ⟨by omega, by omega, by omega, by omega⟩ rfl rfl ?_ | refine k_sliceE rfl rfl rfl rfl ⟨by omega, by omega, by omega, by omega⟩ rfl rfl rfl rfl ?_ | refine k_indexAddr rfl rfl rfl ⟨by omega, by omega⟩ ?_ | refine k_indexAddrs rfl rfl rfl ⟨by omega, by omega⟩ rfl ?_ | refine k_loade rfl rfl rfl ?_ | refine k_fieldAddre rfl rfl rfl rfl ?_ | refine k_len rfl rfl ?_ | refine k_pickT rfl rfl rfl ?_ | refine k_pickF rfl rfl rfl ?_ | refine k_addi rfl rfl rfl (by omega) ?_ | refine k_subi rfl rfl rfl (by omega) ?_ | refine k_lssT rfl rfl rfl (by omega) ?_ | refine k_lssF rfl rfl rfl (by omega) ?_ | refine k_gtrT rfl rfl rfl (by omega) ?_ | refine k_gtrF rfl rfl rfl (by omega) ?_ | refine k_eqlT rfl rfl rfl (by omega) ?_ | refine k_eqlF rfl rfl rfl (by omega) ?_ | refine k_neqT rfl rfl rfl (by omega) ?_ | refine k_neqF rfl rfl rfl (by omega) ?_ | refine k_eqa rfl rfl rfl rfl rfl rfl ?_ | refine k_nea rfl rfl rfl rfl rfl rfl ?_ | refine k_skip rfl ?_ | refine k_skip0 rfl ?_ | refine k_pick rfl rfl rfl rfl rfl ?_ | refine W_yes rfl ?_ | refine W_no rfl ?_)
      exact ⟨n - (si + 1), _, _, _, (by repeat (first | exact trivial | refine ⟨⟨rfl, rfl⟩, ?_⟩ | refine ⟨⟨rfl, bs_bel _ _⟩, ?_⟩ | refine ⟨⟨rfl, arr_bels _ _ _⟩, ?_⟩)), (by repeat (first | exact trivial | refine ⟨⟨rfl, rfl, rfl⟩, ?_⟩ | refine ⟨⟨rfl, rfl, bs_bels _ _⟩, ?_⟩ | refine ⟨⟨rfl, rfl, arr_bels _ _ _⟩, ?_⟩)), by omega, si + 1, 0, by omega, fun t ht => .inr (Nat.zero_le _), rfl, rfl, rfl, rfl⟩
    · repeat (first | with_reducible (first | refine W_seq ?_ | refine q_then ?_ | refine q_thenr ?_ | refine q_thenx ?_ | refine W_block ?_ | refine q_block ?_ | refine q_blockr ?_ | refine q_blockx ?_ | refine W_ret ?_ | refine W_skip ?_ | refine W_label ?_ | refine W_exit ?_ | refine W_scope ?_ | refine q_scope ?_ | refine q_scoper ?_ | refine q_scopex ?_) | (with_reducible refine R_nil ?_; try dsimp only [slots0, slots_ud, cells_U, agg_ud, drop0, dropS, takeS, take0, ud_nil, take_ud, take_ud0, drop_ud, drop_ud0, take_udk, D.cells, D.fz, D.fzs, List.take_succ_cons, List.take_zero, List.drop_succ_cons, List.drop_zero, List.cons_append, List.nil_append, List.append_eq, List.length_cons, List.length_nil, Nat.reduceAdd, Nat.reduceMul, Nat.reduceSub, Int.reduceAdd, Int.reduceSub, Int.reduceToNat, Int.reduceNeg, Int.reduceMul]) | refine q_blocky rfl ?_ | refine W_plain rfl ?_ | refine W_drawn mixed rfl ?_ | refine and_chk (by kernel_rfl) ?_ | refine k_indexAddrs rfl rfl rfl ⟨by omega, by omega⟩ hzl ?_ | refine k_loade rfl rfl (by exact hc _) ?_ | refine k_move rfl rfl ?_ | refine k_assign rfl rfl ?_ | refine k_load rfl rfl rfl rfl ?_ | refine k_alloc rfl ?_ | refine k_store rfl rfl rfl rfl rfl rfl rfl ?_ | refine k_fieldAddr rfl rfl rfl ?_ | refine k_call rfl hk rfl rfl rfl rfl ?_ | refine k_neb rfl Try.underlying4 rfl rfl rfl ?_ | refine k_append rfl rfl rfl (by first | rfl | exact trivial | (show 0 < _; omega)) (by first | rfl | (simp <;> omega)) (by first | rfl | (simp <;> omega)) rfl (by omega) rfl rfl rfl ?_ | refine k_slice rfl rfl rfl rfl ⟨by omega, by omega, by omega⟩ rfl rfl rfl ?_ | refine k_slice3 rfl rfl rfl rfl rfl ⟨by omega, by omega, by omega⟩ rfl rfl rfl ?_ | refine k_sliceA rfl rfl rfl rfl ⟨by omega, by omega, by omega, by omega⟩ rfl rfl ?_ | refine k_sliceE rfl rfl rfl rfl ⟨by omega, by omega, by omega, by omega⟩ rfl rfl rfl rfl ?_ | refine k_indexAddr rfl rfl rfl ⟨by omega, by omega⟩ ?_ | refine k_indexAddrs rfl rfl rfl ⟨by omega, by omega⟩ rfl ?_ | refine k_loade rfl rfl rfl ?_ | refine k_fieldAddre rfl rfl rfl rfl ?_ | refine k_len rfl rfl ?_ | refine k_pickT rfl rfl rfl ?_ | refine k_pickF rfl rfl rfl ?_ | refine k_addi rfl rfl rfl (by omega) ?_ | refine k_subi rfl rfl rfl (by omega) ?_ | refine k_lssT rfl rfl rfl (by omega) ?_ | refine k_lssF rfl rfl rfl (by omega) ?_ | refine k_gtrT rfl rfl rfl (by omega) ?_ | refine k_gtrF rfl rfl rfl (by omega) ?_ | refine k_eqlT rfl rfl rfl (by omega) ?_ | refine k_eqlF rfl rfl rfl (by omega) ?_ | refine k_neqT rfl rfl rfl (by omega) ?_ | refine k_neqF rfl rfl rfl (by omega) ?_ | refine k_eqa rfl rfl rfl rfl rfl rfl ?_ | refine k_nea rfl rfl rfl rfl rfl rfl ?_ | refine k_skip rfl ?_ | refine k_skip0 rfl ?_ | refine k_pick rfl rfl rfl rfl rfl ?_ | refine W_yes rfl ?_ | refine W_no rfl ?_)
      exact ⟨n - (si + 1), _, _, _, (by repeat (first | exact trivial | refine ⟨⟨rfl, rfl⟩, ?_⟩ | refine ⟨⟨rfl, bs_bel _ _⟩, ?_⟩ | refine ⟨⟨rfl, arr_bels _ _ _⟩, ?_⟩)), (by repeat (first | exact trivial | refine ⟨⟨rfl, rfl, rfl⟩, ?_⟩ | refine ⟨⟨rfl, rfl, bs_bels _ _⟩, ?_⟩ | refine ⟨⟨rfl, rfl, arr_bels _ _ _⟩, ?_⟩)), by omega, si + 1, su, by omega, fun t ht => hnext t hs ht, rfl, rfl, rfl, rfl⟩
  · have ej : j = n := by omega
    subst ej
    repeat (first | with_reducible (first | refine W_seq ?_ | refine q_then ?_ | refine q_thenr ?_ | refine q_thenx ?_ | refine W_block ?_ | refine q_block ?_ | refine q_blockr ?_ | refine q_blockx ?_ | refine W_ret ?_ | refine W_skip ?_ | refine W_label ?_ | refine W_exit ?_ | refine W_scope ?_ | refine q_scope ?_ | refine q_scoper ?_ | refine q_scopex ?_) | (with_reducible refine R_nil ?_; try dsimp only [slots0, slots_ud, cells_U, agg_ud, drop0, dropS, takeS, take0, ud_nil, take_ud, take_ud0, drop_ud, drop_ud0, take_udk, D.cells, D.fz, D.fzs, List.take_succ_cons, List.take_zero, List.drop_succ_cons, List.drop_zero, List.cons_append, List.nil_append, List.append_eq, List.length_cons, List.length_nil, Nat.reduceAdd, Nat.reduceMul, Nat.reduceSub, Int.reduceAdd, Int.reduceSub, Int.reduceToNat, Int.reduceNeg, Int.reduceMul]) | refine q_blocky rfl ?_ | refine W_plain rfl ?_ | refine W_drawn mixed rfl ?_ | refine and_chk (by kernel_rfl) ?_ | refine k_move rfl rfl ?_ | refine k_assign rfl rfl ?_ | refine k_load rfl rfl rfl rfl ?_ | refine k_alloc rfl ?_ | refine k_store rfl rfl rfl rfl rfl rfl rfl ?_ | refine k_fieldAddr rfl rfl rfl ?_ | refine k_append rfl rfl rfl (by first | rfl | exact trivial | (show 0 < _; omega)) (by first | rfl | (simp <;> omega)) (by first | rfl | (simp <;> omega)) rfl (by omega) rfl rfl rfl ?_ | refine k_slice rfl rfl rfl rfl ⟨by omega, by omega, by omega⟩ rfl rfl rfl ?_ | refine k_slice3 rfl rfl rfl rfl rfl ⟨by omega, by omega, by omega⟩ rfl rfl rfl ?_ | refine k_sliceA rfl rfl rfl rfl ⟨by omega, by omega, by omega, by omega⟩ rfl rfl ?_ | refine k_sliceE rfl rfl rfl rfl ⟨by omega, by omega, by omega, by omega⟩ rfl rfl rfl rfl ?_ | refine k_indexAddr rfl rfl rfl ⟨by omega, by omega⟩ ?_ | refine k_indexAddrs rfl rfl rfl ⟨by omega, by omega⟩ rfl ?_ | refine k_loade rfl rfl rfl ?_ | refine k_fieldAddre rfl rfl rfl rfl ?_ | refine k_len rfl rfl ?_ | refine k_pickT rfl rfl rfl ?_ | refine k_pickF rfl rfl rfl ?_ | refine k_addi rfl rfl rfl (by omega) ?_ | refine k_subi rfl rfl rfl (by omega) ?_ | refine k_lssT rfl rfl rfl (by omega) ?_ | refine k_lssF rfl rfl rfl (by omega) ?_ | refine k_gtrT rfl rfl rfl (by omega) ?_ | refine k_gtrF rfl rfl rfl (by omega) ?_ | refine k_eqlT rfl rfl rfl (by omega) ?_ | refine k_eqlF rfl rfl rfl (by omega) ?_ | refine k_neqT rfl rfl rfl (by omega) ?_ | refine k_neqF rfl rfl rfl (by omega) ?_ | refine k_eqa rfl rfl rfl rfl rfl rfl ?_ | refine k_nea rfl rfl rfl rfl rfl rfl ?_ | refine k_skip rfl ?_ | refine k_skip0 rfl ?_ | refine k_pick rfl rfl rfl rfl rfl ?_ | refine W_yes rfl ?_ | refine W_no rfl ?_)
    (first | with_reducible refine q_endr ?_ | with_reducible refine q_endn ?_); refine rets1 Try.results15 (by first | exact RetV.tmp _ _ rfl | exact RetV.cell _ _ _ _ _ _ _ _ inferInstance rfl rfl rfl) ?_
    rfl
end Go.Proofs.Ytokijcdanegooaa
