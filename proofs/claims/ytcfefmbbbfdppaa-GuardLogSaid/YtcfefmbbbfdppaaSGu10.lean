/- guard: lived. No conditions. -/
import Derived.Test.YtcfefmbbbfdppaaSGu9
import Derived.Test.YtcfefmbbbfdppaaSGg
namespace Go.Proofs.Ytcfefmbbbfdppaa
open Go.RowKit Go.Lib Go.IntWalk
set_option linter.unusedVariables false
set_option maxRecDepth 100000
def g0T (g : GT) : GuT := ⟨g, g, [], [], [], []⟩
def lvS (x : GuT) (i : Nat) (r : RawT) : GuT := if r.k % 4 = 0 then x.wait (1 + (r.a % 9).toNat) else x.meet (msgB i r) (msgA r)
def lv (g : GT) (l : List RawT) : Nat → GuT
  | 0 => g0T g
  | j + 1 => match l[j]? with
    | some r => lvS (lv g l j) j r
    | none => lv g l j
def cnt (l : List RawT) : Nat := (l.filter fun r => decide (r.k % 4 ≠ 0)).length
theorem bdC_fzs : ∀ (l : List BodyT), D.fzs (bdC l) = bdC l
  | [] => rfl
  | b :: l => by
    have h1 : D.fzs b.cells = b.cells := by have := bd_fz b; simpa [D.fzs, D.fz] using this
    have happ : ∀ (a c : List D), D.fzs (a ++ c) = D.fzs a ++ D.fzs c := fun a => by
      induction a with
      | nil => intro c; rfl
      | cons d a ih => intro c; show d.fz :: D.fzs (a ++ c) = _; rw [ih]; rfl
    show D.fzs (b.cells ++ bdC l) = b.cells ++ bdC l
    rw [happ, h1, bdC_fzs l]
theorem two_fill (b : BodyT) (h : b.e.length = 32) : dfill (bpl 2 38) (zeros 2 (bx 0 0 0 (List.replicate 32 0) [.int .i64 0, .int .i64 0, .slice .nil 0 []])) [(0, .agg b.cells), (1, .agg b.cells)] = some (bdC [b, b]) := by
  have hz : (zeros 2 (bx 0 0 0 (List.replicate 32 0) [.int .i64 0, .int .i64 0, .slice .nil 0 []])).length = 76 := rfl
  have hl := bd_len h
  have hbd : bdC [b, b] = b.cells ++ b.cells := by rw [show [b, b] = [b] ++ [b] from rfl, bdC_app, bdC_one]
  rw [hbd]
  generalize b.cells = bc at *
  generalize zeros 2 (bx 0 0 0 (List.replicate 32 0) [.int .i64 0, .int .i64 0, .slice .nil 0 []]) = zz at *
  have s1 : splice 0 bc zz = some (bc ++ zz.drop 38) := by
    unfold splice
    rw [Nat.ble_eq_true_of_le (by omega), cond_true, hl]; rfl
  have s2 : splice 38 bc (bc ++ zz.drop 38) = some (bc ++ bc) := by
    unfold splice
    rw [Nat.ble_eq_true_of_le (by rw [List.length_append, List.length_drop]; omega), cond_true]
    congr 1
    rw [show List.take 38 (bc ++ zz.drop 38) = bc by rw [← hl, List.take_left], List.drop_of_length_le (by rw [List.length_append, List.length_drop]; omega), List.append_nil]
  show cond (Nat.beq bc.length 38 && true) (match splice 0 bc zz with | some cs' => (cond (Nat.beq bc.length 38 && true) (match splice 38 bc cs' with | some cs'' => some cs'' | none => none) none) | none => none) none = _
  rw [hl, s1]
  show cond true (match splice 38 bc (bc ++ zz.drop 38) with | some cs'' => some cs'' | none => none) none = _
  rw [s2]; rfl
theorem lv_step (g : GT) (l : List RawT) (j : Nat) (r : RawT) (h : l[j]? = some r) : lv g l (j + 1) = lvS (lv g l j) j r := by
  show (match l[j]? with | some r => _ | none => _) = _
  rw [h]
theorem cnt_step (l : List RawT) (j : Nat) (r : RawT) (h : l[j]? = some r) : cnt (l.take (j + 1)) = cnt (l.take j) + (if r.k % 4 = 0 then 0 else 1) := by
  unfold cnt
  rw [List.take_add_one, h, Option.toList_some, List.filter_append, List.length_append]
  by_cases hk : r.k % 4 = 0 <;> simp [hk]
theorem lv_inv (g : GT) (hg : Start g) (l : List RawT) : ∀ j, j ≤ l.length → j ≤ 20 → LInv g j (cnt (l.take j)) (lv g l j)
  | 0, _, _ => by
    have h0 : Ml [] := ⟨fun b h => absurd h List.not_mem_nil, Nat.zero_le _⟩
    refine ⟨⟨hg.ok, hg.ok, Nat.zero_le _, h0, h0⟩, rfl, rfl, Nat.zero_le _, by show g.now ≤ _; have := hg.now; omega, ?_, fun b hb => absurd hb List.not_mem_nil, ?_, rfl, Nat.le_refl _⟩
    · show ∀ q ∈ g.past ++ g.queue, _
      rw [hg.past, hg.queue]; exact fun q hq => absurd hq List.not_mem_nil
    · show ([] : List Nat).Perm (g.queue.map QT.id)
      rw [hg.queue]; exact List.Perm.refl _
  | j + 1, hj, hj2 => by
    have ih := lv_inv g hg l j (by omega) (by omega)
    have hr : l[j]? = some (l[j]'(by omega)) := List.getElem?_eq_getElem (by omega)
    rw [lv_step g l j _ hr, cnt_step l j _ hr]
    unfold lvS
    split
    · exact ih.wait _ (by omega) (by omega)
    · exact ih.meet _ (by omega)
set_option maxHeartbeats 16000000 in
theorem lived_ok (k a b : Int) (s : ByteArray) (l : List RawT) (most : Nat) (hm : most ≤ 19) : Pur Try.prog 6 [.agg [.int .i64 k, .int .i64 a, .int .i64 b, .str s], .slice .frozen l.length (rws l), .int .i64 (most : Int)] (.tup [.agg (lv (gofG a b) (l.take most) (l.take most).length).cells, .bool true]) := by
  have sm := some_ok l most (by omega)
  have hl : (l.take most).length ≤ 19 := by rw [List.length_take]; omega
  have hrl := rws_len (l.take most)
  have hrc := rws_cut (l.take most)
  have hg := gof_start a b
  have hgo := gateOf_ok k a b s
  have hbg := Begin_fn (gofG a b) hg.ok
  have hup := GT.ups0 (gofG a b) hg
  have hinv := lv_inv (gofG a b) hg (l.take most)
  have hstep := lv_step (gofG a b) (l.take most)
  generalize l.take most = l' at *
  generalize hn : l'.length = n at *
  obtain ⟨zr, hzr⟩ : ∃ z, rws l' = z := ⟨_, rfl⟩
  rw [hzr] at hrl hrc sm
  have hzl : n * 4 = zr.length := hrl.symm
  have h00 : lv (gofG a b) l' 0 = g0T (gofG a b) := rfl
  generalize gofG a b = g at *
  unfold GT.cells gC qD at hbg hup
  unfold GT.cells0 at hgo hup
  unfold GuT.cells guC bD mD
  unfold guC at hbg
  refine pur_intro Try.func6 rfl Try.ntmps6 rfl (by first | rfl | assumption | exact bs_cl _) fun B => ?_
  repeat (first | with_reducible (first | refine W_seq ?_ | refine q_then ?_ | refine q_thenx ?_ | refine W_block ?_ | refine q_block ?_ | refine q_blockx ?_ | refine W_ret ?_ | refine W_skip ?_ | refine W_exit ?_) | (with_reducible refine R_nil ?_; try dsimp only [slots0, slots_ud, cells_U, agg_ud, drop0, dropS, takeS, take0, ud_nil, take_ud, take_ud0, drop_ud, drop_ud0, take_udk, D.cells, D.fz, D.fzs, List.take_succ_cons, List.take_zero, List.drop_succ_cons, List.drop_zero, List.cons_append, List.nil_append, List.append_eq, List.length_cons, List.length_nil, Nat.reduceAdd, Nat.reduceMul, Nat.reduceSub, Int.reduceAdd, Int.reduceSub, Int.reduceToNat, Int.reduceNeg, Int.reduceMul]) | refine W_plain rfl ?_ | refine W_drawn mixed rfl ?_ | refine and_chk (by kernel_rfl) ?_ | refine k_move rfl rfl ?_ | refine k_assign rfl rfl ?_ | refine k_load rfl rfl rfl rfl ?_ | refine k_alloc rfl ?_ | refine k_box rfl rfl rfl ?_ | refine k_store rfl rfl rfl rfl rfl rfl rfl ?_ | refine k_extract rfl rfl rfl ?_ | refine k_fieldAddr rfl rfl rfl ?_ | refine k_build rfl rfl rfl ?_ | refine k_call rfl sm rfl rfl rfl rfl ?_ | refine k_call rfl hgo rfl rfl rfl rfl ?_ | refine k_callf (fun l => l + 3) [0, 1] (5) rfl (hbg) rfl (.cons (.refl _) (.cons hup .nil)) (rfl) (by (repeat (first | refine ⟨⟨rfl, _, rfl, (by first | exact Ups.refl _ | assumption | ((repeat refine Ups.cons (by first | exact Up.refl _ | exact Up.nil _ | exact Up.fz _ _ _) ?_); exact Ups.nil)), rfl⟩, ?_⟩ | refine ⟨⟨rfl, rfl⟩, ?_⟩)); exact trivial) rfl rfl rfl rfl (rfl) (rfl) rfl rfl rfl rfl ?_ | (refine k_append rfl rfl rfl ?_ ?_ ?_ rfl ?_ rfl rfl rfl ?_; (first | rfl | exact trivial | (show 0 < _; omega)); (first | rfl | (simp <;> omega)); (first | rfl | (simp <;> omega)); (omega)) | refine k_buildSlice (cs := []) rfl rfl rfl rfl rfl rfl rfl ?_ | refine k_buildSlice rfl rfl rfl rfl rfl rfl rfl ?_ | (refine k_indexAddrs rfl rfl rfl ⟨?_, ?_⟩ rfl ?_; (omega); (omega)) | refine k_loade rfl rfl rfl ?_ | refine k_len rfl rfl ?_ | refine k_pickT rfl rfl rfl ?_ | (refine k_addi rfl rfl rfl ?_ ?_; (omega)) | (refine k_lssT rfl rfl rfl ?_ ?_; (omega)) | (refine k_lssF rfl rfl rfl ?_ ?_; (omega)) | (refine k_eqlT rfl rfl rfl ?_ ?_; (omega)) | (refine k_eqlF rfl rfl rfl ?_ ?_; (omega)) | refine W_yes rfl ?_ | refine W_no rfl ?_)
  refine W_loopW (fun n' ρ m nx => ∃ (j : Nat) (y : GuT), j ≤ n ∧ y = lv g l' j ∧ n' = n - j ∧ ρ = [(30, .int .i64 (j : Int)), (29, .int .i64 (n : Int)), (28, .slice .frozen n zr), (10, .bool true), (8, .ptr 0 0), (7, .bool false), (6, .ptr 1 0)] ∧ m = [(1, some (.var 37 [.int .u64 0, .int .u64 0, .int .u64 0, .int .u64 0, .int .i64 0, .int .i64 0, .int .i64 0, .int .i64 0, .int .i64 0, .int .i64 0, .int .i64 0, .slice .nil 0 [], .slice .nil 0 [], .int .i64 0, .int .i64 0, .int .i64 0, .int .i64 0, .int .i64 0, .int .i64 0, .int .i64 0, .slice .nil 0 [], .slice .nil 0 [], .slice .nil 0 [], .slice .nil 0 [], .slice .nil 0 [], .slice .nil 0 []])), (0, some (.var 37 [.int .u64 5, .int .u64 0, .int .u64 0, .int .u64 0, .int .i64 y.f.l0, .int .i64 y.f.l1, .int .i64 y.f.l2, .int .i64 y.f.b0, .int .i64 y.f.b1, .int .i64 y.f.b2, .int .i64 y.f.now, .slice .frozen y.f.past.length (qsC y.f.past), .slice .frozen y.f.queue.length (qsC y.f.queue), .int .i64 y.g.l0, .int .i64 y.g.l1, .int .i64 y.g.l2, .int .i64 y.g.b0, .int .i64 y.g.b1, .int .i64 y.g.b2, .int .i64 y.g.now, .slice .frozen y.g.past.length (qsC y.g.past), .slice .frozen y.g.queue.length (qsC y.g.queue), .slice .frozen y.la.length (bs y.la), .slice .frozen y.si.length (bs y.si), .slice .frozen y.hd.length (bdC y.hd), .slice .frozen y.dn.length (bdC y.dn)]))] ∧ nx = 2)
    ⟨_, _, _, _, (weak_ren (fun l => if l = 0 then 5 else l) (by repeat (first | exact trivial | refine ⟨⟨_, rfl, (by first | exact Up.refl _ | exact Up.fz _ _ _ | exact Up.nil _ | exact Up.nrs _ | assumption), rfl⟩, ?_⟩)) (by repeat (first | exact trivial | refine ⟨⟨rfl, _, rfl, (by first | exact Ups.refl _ | assumption | ((repeat refine Ups.cons (by first | exact Up.refl _ | exact Up.nil _ | exact Up.fz _ _ _) ?_); exact Ups.nil)), rfl⟩, ?_⟩ | refine ⟨⟨rfl, rfl⟩, ?_⟩ | refine ⟨⟨rfl, _, rfl, bs_ups _ _, bs_lalls _ _⟩, ?_⟩ | refine ⟨⟨rfl, _, rfl, cls_ups _ _ (by assumption), cls_lalls _ _ (by assumption)⟩, ?_⟩)) (by first | decide | simp) (Nat.zero_le _) (fun _ h => absurd h (Nat.not_lt_zero _))), 0, g0T g, Nat.zero_le _, rfl, rfl, rfl, rfl, rfl⟩ ?_
  rintro n' ρ m nx ⟨j, y, hj, hy, rfl, rfl, rfl, rfl⟩
  have hi := hinv j hj (by omega)
  rw [← hy] at hi
  by_cases hlt : j < n
  · obtain ⟨⟨rk, ra, rb, rs⟩, hr⟩ : ∃ r, l'[j]? = some r := ⟨_, List.getElem?_eq_getElem (by omega)⟩
    have hc1 := hrc j _ hr
    have hst := hstep j _ hr
    rw [← hy] at hst
    replace hc1 : ∀ ze, cut ⟨true, 4, ze⟩ 0 (zr.drop ((j : Int).toNat * 4)) = some (.agg [.int .i64 rk, .int .i64 ra, .int .i64 rb, .str rs]) := hc1
    unfold lvS at hst
    dsimp only at hst
    obtain ⟨q4, e4, h4⟩ := gmod rk 4 (by decide)
    have p4 := p_picked rk 4 q4 (by decide) (by decide) e4
    by_cases hk : rk % 4 = 0
    · rw [if_pos hk] at hst
      obtain rfl : q4 = 0 := by omega
      obtain ⟨q9, e9, h9⟩ := gmod ra 9 (by decide)
      have p9 := p_picked ra 9 q9 (by decide) (by decide) e9
      rw [show (ra % 9).toNat = q9 by omega] at hst
      have hnow := hi.now
      have hg := hi.gone (1 + q9) (by omega) (by omega)
      have hla := hi.la
      have hH := Hours_ok y hi.ok (1 + q9) (by omega) (by omega) (by omega) (hi.rinv _) hg.1 hi.si (by omega)
      have hadd : IntKind.i64.wrap ((1 : Int) + (q9 : Int)) = ((1 + q9 : Nat) : Int) := by rw [show (1 : Int) + (q9 : Int) = ((1 + q9 : Nat) : Int) by omega]; exact i64_in _ (by omega)
      generalize y.wait (1 + q9) = y2 at *
      generalize 1 + q9 = h9' at *
      unfold GuT.cells guC bD mD at hH
      repeat (first | with_reducible (first | refine W_seq ?_ | refine q_then ?_ | refine q_thenx ?_ | refine W_block ?_ | refine q_block ?_ | refine q_blockx ?_ | refine W_ret ?_ | refine W_skip ?_ | refine W_exit ?_) | (with_reducible refine R_nil ?_; try dsimp only [slots0, slots_ud, cells_U, agg_ud, drop0, dropS, takeS, take0, ud_nil, take_ud, take_ud0, drop_ud, drop_ud0, take_udk, D.cells, D.fz, D.fzs, List.take_succ_cons, List.take_zero, List.drop_succ_cons, List.drop_zero, List.cons_append, List.nil_append, List.append_eq, List.length_cons, List.length_nil, Nat.reduceAdd, Nat.reduceMul, Nat.reduceSub, Int.reduceAdd, Int.reduceSub, Int.reduceToNat, Int.reduceNeg, Int.reduceMul]) | refine W_plain rfl ?_ | refine W_drawn mixed rfl ?_ | refine and_chk (by kernel_rfl) ?_ | (refine k_indexAddrs rfl rfl rfl ⟨?_, ?_⟩ hzl ?_; (omega); (omega)) | refine k_loade rfl rfl (hc1 _) ?_ | refine k_load rfl rfl rfl (raw_4 rk ra rb rs _) ?_ | refine k_add rfl rfl rfl hadd ?_ | refine k_move rfl rfl ?_ | refine k_assign rfl rfl ?_ | refine k_load rfl rfl rfl rfl ?_ | refine k_alloc rfl ?_ | refine k_box rfl rfl rfl ?_ | refine k_store rfl rfl rfl rfl rfl rfl rfl ?_ | refine k_extract rfl rfl rfl ?_ | refine k_fieldAddr rfl rfl rfl ?_ | refine k_build rfl rfl rfl ?_ | refine k_call rfl p4 rfl rfl rfl rfl ?_ | refine k_call rfl p9 rfl rfl rfl rfl ?_ | refine k_call rfl hH rfl rfl rfl rfl ?_ | (refine k_append rfl rfl rfl ?_ ?_ ?_ rfl ?_ rfl rfl rfl ?_; (first | rfl | exact trivial | (show 0 < _; omega)); (first | rfl | (simp <;> omega)); (first | rfl | (simp <;> omega)); (omega)) | refine k_buildSlice (cs := []) rfl rfl rfl rfl rfl rfl rfl ?_ | refine k_buildSlice rfl rfl rfl rfl rfl rfl rfl ?_ | (refine k_indexAddrs rfl rfl rfl ⟨?_, ?_⟩ rfl ?_; (omega); (omega)) | refine k_loade rfl rfl rfl ?_ | refine k_len rfl rfl ?_ | refine k_pickT rfl rfl rfl ?_ | (refine k_addi rfl rfl rfl ?_ ?_; (omega)) | (refine k_lssT rfl rfl rfl ?_ ?_; (omega)) | (refine k_lssF rfl rfl rfl ?_ ?_; (omega)) | (refine k_eqlT rfl rfl rfl ?_ ?_; (omega)) | (refine k_eqlF rfl rfl rfl ?_ ?_; (omega)) | refine W_yes rfl ?_ | refine W_no rfl ?_)
      exact ⟨n - (j + 1), _, _, _, (weak_ren (fun l => l) (by repeat (first | exact trivial | refine ⟨⟨_, rfl, (by first | exact Up.refl _ | exact Up.fz _ _ _ | exact Up.nil _ | exact Up.nrs _ | assumption), rfl⟩, ?_⟩)) (by repeat (first | exact trivial | refine ⟨⟨rfl, _, rfl, (by first | exact Ups.refl _ | assumption | ((repeat refine Ups.cons (by first | exact Up.refl _ | exact Up.nil _ | exact Up.fz _ _ _) ?_); exact Ups.nil)), rfl⟩, ?_⟩ | refine ⟨⟨rfl, rfl⟩, ?_⟩ | refine ⟨⟨rfl, _, rfl, bs_ups _ _, bs_lalls _ _⟩, ?_⟩ | refine ⟨⟨rfl, _, rfl, cls_ups _ _ (by assumption), cls_lalls _ _ (by assumption)⟩, ?_⟩)) (by first | decide | simp) (Nat.zero_le _) (fun _ h => absurd h (Nat.not_lt_zero _))), by omega, j + 1, y2, by omega, hst.symm, rfl, rfl, rfl, rfl⟩
    · rw [if_neg hk] at hst
      have hq4 : q4 ≠ 0 := by omega
      have hms := message_ok j (by omega) rk ra rb rs
      have hS := hi.see2 ⟨rk, ra, rb, rs⟩ (by omega)
      have hbe := (msg_ok j (by omega) ⟨rk, ra, rb, rs⟩).e
      have hbf := two_fill _ hbe
      have hbc := bd_cls (msgB j ⟨rk, ra, rb, rs⟩)
      have hbc1 : (D.agg (msgB j ⟨rk, ra, rb, rs⟩).cells).cl = true := hbc
      have hbfz := bd_fz (msgB j ⟨rk, ra, rb, rs⟩)
      have hbfz1 : D.fzs (msgB j ⟨rk, ra, rb, rs⟩).cells = (msgB j ⟨rk, ra, rb, rs⟩).cells := by simpa [D.fzs, D.fz] using hbfz
      have hzc : D.cls (bdC [msgB j ⟨rk, ra, rb, rs⟩, msgB j ⟨rk, ra, rb, rs⟩]) = true := bdC_cls _
      have hzf : D.fzs (bdC [msgB j ⟨rk, ra, rb, rs⟩, msgB j ⟨rk, ra, rb, rs⟩]) = bdC [msgB j ⟨rk, ra, rb, rs⟩, msgB j ⟨rk, ra, rb, rs⟩] := bdC_fzs _
      generalize y.meet (msgB j ⟨rk, ra, rb, rs⟩) (msgA ⟨rk, ra, rb, rs⟩) = y2 at *
      generalize bdC [msgB j ⟨rk, ra, rb, rs⟩, msgB j ⟨rk, ra, rb, rs⟩] = zb at *
      generalize hbce : (msgB j ⟨rk, ra, rb, rs⟩).cells = bc at *
      unfold GuT.cells guC bD mD at hS
      repeat (first | with_reducible (first | refine W_seq ?_ | refine q_then ?_ | refine q_thenx ?_ | refine W_block ?_ | refine q_block ?_ | refine q_blockx ?_ | refine W_ret ?_ | refine W_skip ?_ | refine W_exit ?_) | (with_reducible refine R_nil ?_; try dsimp only [slots0, slots_ud, cells_U, agg_ud, drop0, dropS, takeS, take0, ud_nil, take_ud, take_ud0, drop_ud, drop_ud0, take_udk, D.cells, D.fz, D.fzs, List.take_succ_cons, List.take_zero, List.drop_succ_cons, List.drop_zero, List.cons_append, List.nil_append, List.append_eq, List.length_cons, List.length_nil, Nat.reduceAdd, Nat.reduceMul, Nat.reduceSub, Int.reduceAdd, Int.reduceSub, Int.reduceToNat, Int.reduceNeg, Int.reduceMul]) | refine W_plain rfl ?_ | refine W_drawn mixed rfl ?_ | refine and_chk (by kernel_rfl) ?_ | (refine k_indexAddrs rfl rfl rfl ⟨?_, ?_⟩ hzl ?_; (omega); (omega)) | refine k_loade rfl rfl (hc1 _) ?_ | refine k_load rfl rfl rfl (raw_4 rk ra rb rs _) ?_ | refine k_buildSlice rfl rfl hbf hzf hzc rfl rfl ?_ | refine k_move rfl rfl ?_ | refine k_assign rfl rfl ?_ | refine k_load rfl rfl rfl rfl ?_ | refine k_alloc rfl ?_ | refine k_box rfl rfl rfl ?_ | refine k_store rfl rfl rfl rfl rfl rfl rfl ?_ | refine k_extract rfl rfl rfl ?_ | refine k_fieldAddr rfl rfl rfl ?_ | refine k_build rfl rfl rfl ?_ | refine k_call rfl p4 rfl rfl rfl rfl ?_ | refine k_call rfl hms rfl rfl rfl hbc1 ?_ | refine k_call rfl hS rfl rfl rfl rfl ?_ | (refine k_append rfl rfl rfl ?_ ?_ ?_ rfl ?_ rfl rfl rfl ?_; (first | rfl | exact trivial | (show 0 < _; omega)); (first | rfl | (simp <;> omega)); (first | rfl | (simp <;> omega)); (omega)) | refine k_buildSlice (cs := []) rfl rfl rfl rfl rfl rfl rfl ?_ | refine k_buildSlice rfl rfl rfl rfl rfl rfl rfl ?_ | (refine k_indexAddrs rfl rfl rfl ⟨?_, ?_⟩ rfl ?_; (omega); (omega)) | refine k_loade rfl rfl rfl ?_ | refine k_len rfl rfl ?_ | refine k_pickT rfl rfl rfl ?_ | (refine k_addi rfl rfl rfl ?_ ?_; (omega)) | (refine k_lssT rfl rfl rfl ?_ ?_; (omega)) | (refine k_lssF rfl rfl rfl ?_ ?_; (omega)) | (refine k_eqlT rfl rfl rfl ?_ ?_; (omega)) | (refine k_eqlF rfl rfl rfl ?_ ?_; (omega)) | refine W_yes rfl ?_ | refine W_no rfl ?_)
      exact ⟨n - (j + 1), _, _, _, (weak_ren (fun l => l) (by repeat (first | exact trivial | refine ⟨⟨_, rfl, (by first | exact Up.refl _ | exact Up.fz _ _ _ | exact Up.nil _ | exact Up.nrs _ | assumption), rfl⟩, ?_⟩)) (by repeat (first | exact trivial | refine ⟨⟨rfl, _, rfl, (by first | exact Ups.refl _ | assumption | ((repeat refine Ups.cons (by first | exact Up.refl _ | exact Up.nil _ | exact Up.fz _ _ _) ?_); exact Ups.nil)), rfl⟩, ?_⟩ | refine ⟨⟨rfl, rfl⟩, ?_⟩ | refine ⟨⟨rfl, _, rfl, bs_ups _ _, bs_lalls _ _⟩, ?_⟩ | refine ⟨⟨rfl, _, rfl, cls_ups _ _ (by assumption), cls_lalls _ _ (by assumption)⟩, ?_⟩)) (by first | decide | simp) (Nat.zero_le _) (fun _ h => absurd h (Nat.not_lt_zero _))), by omega, j + 1, y2, by omega, hst.symm, rfl, rfl, rfl, rfl⟩
  · have ej : j = n := by omega
    subst ej
    rw [← hy]
    repeat (first | with_reducible (first | refine W_seq ?_ | refine q_then ?_ | refine q_thenx ?_ | refine W_block ?_ | refine q_block ?_ | refine q_blockx ?_ | refine W_ret ?_ | refine W_skip ?_ | refine W_exit ?_) | (with_reducible refine R_nil ?_; try dsimp only [slots0, slots_ud, cells_U, agg_ud, drop0, dropS, takeS, take0, ud_nil, take_ud, take_ud0, drop_ud, drop_ud0, take_udk, D.cells, D.fz, D.fzs, List.take_succ_cons, List.take_zero, List.drop_succ_cons, List.drop_zero, List.cons_append, List.nil_append, List.append_eq, List.length_cons, List.length_nil, Nat.reduceAdd, Nat.reduceMul, Nat.reduceSub, Int.reduceAdd, Int.reduceSub, Int.reduceToNat, Int.reduceNeg, Int.reduceMul]) | refine W_plain rfl ?_ | refine W_drawn mixed rfl ?_ | refine and_chk (by kernel_rfl) ?_ | refine k_move rfl rfl ?_ | refine k_assign rfl rfl ?_ | refine k_load rfl rfl rfl rfl ?_ | refine k_alloc rfl ?_ | refine k_box rfl rfl rfl ?_ | refine k_store rfl rfl rfl rfl rfl rfl rfl ?_ | refine k_extract rfl rfl rfl ?_ | refine k_fieldAddr rfl rfl rfl ?_ | refine k_build rfl rfl rfl ?_ | (refine k_append rfl rfl rfl ?_ ?_ ?_ rfl ?_ rfl rfl rfl ?_; (first | rfl | exact trivial | (show 0 < _; omega)); (first | rfl | (simp <;> omega)); (first | rfl | (simp <;> omega)); (omega)) | refine k_buildSlice (cs := []) rfl rfl rfl rfl rfl rfl rfl ?_ | refine k_buildSlice rfl rfl rfl rfl rfl rfl rfl ?_ | (refine k_indexAddrs rfl rfl rfl ⟨?_, ?_⟩ rfl ?_; (omega); (omega)) | refine k_loade rfl rfl rfl ?_ | refine k_len rfl rfl ?_ | refine k_pickT rfl rfl rfl ?_ | (refine k_addi rfl rfl rfl ?_ ?_; (omega)) | (refine k_lssT rfl rfl rfl ?_ ?_; (omega)) | (refine k_lssF rfl rfl rfl ?_ ?_; (omega)) | (refine k_eqlT rfl rfl rfl ?_ ?_; (omega)) | (refine k_eqlF rfl rfl rfl ?_ ?_; (omega)) | refine W_yes rfl ?_ | refine W_no rfl ?_)
    (first | with_reducible refine q_endr ?_); refine rets2 Try.results6 (by first | exact RetV.tmp _ _ rfl | exact RetV.cell _ _ _ _ _ _ _ _ inferInstance rfl rfl rfl) (by first | exact RetV.tmp _ _ rfl | exact RetV.cell _ _ _ _ _ _ _ _ inferInstance rfl rfl rfl) ?_ ?_
    · rfl
    · rfl
end Go.Proofs.Ytcfefmbbbfdppaa
