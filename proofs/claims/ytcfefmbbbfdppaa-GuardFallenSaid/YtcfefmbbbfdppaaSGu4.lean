/- guard: Worth, met. Conditions: as said. -/
import Derived.Test.YtcfefmbbbfdppaaSGu3
namespace Go.Proofs.Ytcfefmbbbfdppaa
open Go.RowKit Go.Lib Go.IntWalk
set_option linter.unusedVariables false
set_option maxRecDepth 100000
theorem ud_small (n : Nat) (h : n ≤ 1073741824) : ud n = [.int .u64 (n : Int), .int .u64 0, .int .u64 0, .int .u64 0] := by
  have h0 : lim n 0 = (n : Int) := by rw [lim0]; omega
  have h1 : lim n 1 = 0 := by rw [lim1]; omega
  have h2 : lim n 2 = 0 := by rw [lim2]; omega
  have h3 : lim n 3 = 0 := by
    unfold lim
    have : n / 18446744073709551616 ^ 3 = 0 := Nat.div_eq_of_lt (by omega)
    rw [this]; rfl
  unfold ud
  rw [h0, h1, h2, h3]
def Wor (b : BodyT) (am : Nat) : Prop := am ≤ 1073741824 ∧ ∃ X : List D, X.length = 80 ∧ D.cls X = true ∧ (∀ ze, cut ⟨false, 1, ze⟩ 0 X = some (.int .i64 1)) ∧ (∀ ze, cut ⟨true, 4, ze⟩ 1 X = some (U am)) ∧ Pur Try.prog 61 [.slice .frozen b.l.length (bs b.l)] (.tup [.agg X, .int .i64 0])
set_option maxHeartbeats 16000000 in
theorem Worth_ok (b : BodyT) (h : b.ok) (am : Nat) (hw : Wor b am) : Pur Try.prog 50 [.agg b.cells] (.int .i64 (am : Int)) := by
  obtain ⟨h1, X, x1, x2, x3, x4, hd⟩ := hw
  have hld := bd_at h.e 2 _ rfl
  have hXy : ∀ cs : List D, cs.length = 80 → splice 0 X cs = some X := fun cs hc => by
    unfold splice
    rw [Nat.ble_eq_true_of_le (by rw [x1, hc]; exact Nat.le_refl _), cond_true, Nat.zero_add, List.drop_of_length_le (by rw [x1, hc]; exact Nat.le_refl _)]
    simp
  have ht : D.cl (.tup [.agg X, .int .i64 0]) = true := by show (D.cls X && true) = true; rw [x2]; rfl
  rw [show U am = .agg (ud am) from rfl, ud_small am h1] at x4
  have hcv : IntKind.i64.wrap (am : Int) = (am : Int) := i64_in _ (by omega)
  have hbits : bitw .or .u64 0 0 = 0 := by decide
  generalize b.cells = bc at *
  refine pur_intro Try.func50 rfl Try.ntmps50 rfl (by first | rfl | assumption | exact bs_cl _) fun B => ?_
  repeat (first | with_reducible (first | refine W_seq ?_ | refine q_then ?_ | refine W_ret ?_ | refine W_skip ?_) | (with_reducible refine R_nil ?_; try dsimp only [slots0, slots_ud, cells_U, agg_ud, drop0, dropS, takeS, take0, ud_nil, take_ud, take_ud0, drop_ud, drop_ud0, take_udk, D.cells, D.fz, D.fzs, List.take_succ_cons, List.take_zero, List.drop_succ_cons, List.drop_zero, List.cons_append, List.nil_append, List.append_eq, List.length_cons, List.length_nil, Nat.reduceAdd, Nat.reduceMul, Nat.reduceSub, Int.reduceAdd, Int.reduceSub, Int.reduceToNat, Int.reduceNeg, Int.reduceMul]) | refine W_plain rfl ?_ | refine and_chk (by kernel_rfl) ?_ | refine k_load rfl rfl rfl (by exact hld _ _ rfl) ?_ | refine k_store rfl rfl rfl rfl (by exact x1) rfl (by exact hXy _ rfl) ?_ | refine k_load rfl rfl rfl (x3 _) ?_ | refine k_load rfl rfl rfl (x4 _) ?_ | refine k_bits rfl rfl rfl rfl hbits ?_ | refine k_move rfl rfl ?_ | refine k_assign rfl rfl ?_ | refine k_load rfl rfl rfl rfl ?_ | refine k_alloc rfl ?_ | refine k_box rfl rfl rfl ?_ | refine k_store rfl rfl rfl rfl rfl rfl rfl ?_ | refine k_extract rfl rfl rfl ?_ | refine k_fieldAddr rfl rfl rfl ?_ | refine k_call rfl hd rfl rfl rfl ht ?_ | refine k_conv rfl rfl hcv ?_ | (refine k_append rfl rfl rfl ?_ ?_ ?_ rfl ?_ rfl rfl rfl ?_; (first | rfl | exact trivial | (show 0 < _; omega)); (first | rfl | (simp <;> omega)); (first | rfl | (simp <;> omega)); (omega)) | (refine k_indexAddr rfl rfl rfl ⟨?_, ?_⟩ ?_; (omega); (omega)) | refine k_pickF rfl rfl rfl ?_ | (refine k_gtrF rfl rfl rfl ?_ ?_; (omega)) | (refine k_neqF rfl rfl rfl ?_ ?_; (omega)) | refine k_skip rfl ?_ | refine W_no rfl ?_)
  (first | with_reducible refine q_endr ?_); refine rets1 Try.results50 (by first | exact RetV.tmp _ _ rfl | exact RetV.cell _ _ _ _ _ _ _ _ inferInstance rfl rfl rfl) ?_
  rfl
def guO (x : GuT) (i j : Nat) : List D := guC x.f x.g (bD x.la) (bD x.si) (.slice (.own i) x.hd.length (bdC x.hd)) (.slice (.own j) x.dn.length (bdC x.dn))
def qOf (x : GuT) (b : BodyT) (am : Nat) : QT := ⟨b.id, am, b.c, x.g.now⟩
def GuT.pass (x : GuT) (b : BodyT) (am : Nat) : GuT := { x with g := x.g.pass (qOf x b am), dn := x.dn ++ [b] }
def GuT.hold (x : GuT) (b : BodyT) (am : Nat) : GuT := { x with g := x.g.hold (qOf x b am), hd := x.hd ++ [b] }
theorem offNew (g : GT) (x : QT) (hn : ∀ q ∈ g.past ++ g.queue, q.id ≠ x.id) (hq : g.queue.length ≠ 40) : offerD g x = .tup [.agg (if g.fits x = true then g.pass x else g.hold x).cells, .bool (g.fits x), .int .i64 0] := by
  unfold offerD
  rw [if_neg (by rw [has_no hn]; simp)]
  cases h : g.fits x with
  | true => rw [if_pos rfl, if_pos rfl]
  | false => rw [if_neg (by decide), if_neg hq, if_neg (by decide)]
section
variable (x : GuT) (h : x.ok) (b : BodyT) (hb : b.ok) (hc3 : b.c < 3) (hu : b.u < 256) (am : Nat) (hw : Wor b am) (hn : ∀ q ∈ x.g.past ++ x.g.queue, q.id ≠ b.id) (hq : x.g.queue.length ≠ 40)
include h hb hc3 hu hw hn hq
set_option maxHeartbeats 16000000 in
theorem Met_pass (hf : x.g.fits (qOf x b am) = true) : Fn Try.prog 27 2 [.agg (guO x 0 1), .agg b.cells] [(0, some (.tok 52 38)), (1, some (.tok 52 38))] (.tup [.agg (guO (x.pass b am) 0 2), .int .i64 0]) [(0, some (.tok 52 38)), (2, some (.tok 52 38))] := by
  have hi := Id_ok b hb
  have hwo := Worth_ok b hb am hw
  have hidl : b.id < 1099511627776 := by unfold BodyT.id; omega
  have hof := Offer_ok x.g h.g b.id am b.c hidl hw.1 hc3 _ rfl
  rw [offNew x.g ⟨b.id, am, b.c, x.g.now⟩ hn hq, show x.g.fits ⟨b.id, am, b.c, x.g.now⟩ = true from hf, if_pos rfl] at hof
  rw [show (⟨b.id, am, b.c, x.g.now⟩ : QT) = qOf x b am from rfl] at hof
  have hbo := gbody_ok b hb.e (by have := hb.l; omega)
  have hbl := bd_len hb.e
  have hball := bd_all hb.e
  have hbput := bd_put hb.e
  have hbc := bd_cls b
  have hbcl := bd_cl b
  have hbfz := bd_fz b
  have hbfz1 : D.fzs b.cells = b.cells := by have := hbfz; simpa [D.fzs, D.fz] using this
  have hbc1 : (D.agg b.cells).cl = true := hbc
  have hb38 : (D.agg b.cells).cells.length = 38 := hbl
  have h1c : 1 * 38 = b.cells.length := by omega
  have hbs := one_fill b hb.e
  have hcc : ∀ ze, cut ⟨false, 1, ze⟩ 2 b.cells = some (.int .i64 (b.c : Int)) := fun _ => rfl
  have z1l : x.hd.length * 38 = (bdC x.hd).length := (bdC_len x.hd h.hd.em).symm
  have z2l : x.dn.length * 38 = (bdC x.dn).length := (bdC_len x.dn h.dn.em).symm
  have s1 : x.hd.length + 1 ≤ 16777216 := by have := h.hd.len; omega
  have s2 : x.dn.length + 1 ≤ 16777216 := by have := h.dn.len; omega
  have gcut : ∀ (l0 l1 l2 b0 b1 b2 now : D) (p q : D) ze, cut ⟨true, 9, ze⟩ 0 [l0, l1, l2, b0, b1, b2, now, p, q] = some (.agg [l0, l1, l2, b0, b1, b2, now, p, q]) := fun _ _ _ _ _ _ _ _ _ _ => rfl
  have hap : bdC x.dn ++ b.cells = bdC (x.dn ++ [b]) := by rw [bdC_app, bdC_one]
  have hln : x.dn.length + 1 = (x.dn ++ [b]).length := by rw [List.length_append]; rfl
  unfold guO GuT.pass
  dsimp only
  rw [← hln]
  obtain ⟨zz, hzz⟩ : ∃ z, bdC (x.dn ++ [b]) = z := ⟨_, rfl⟩
  rw [hzz] at hap ⊢
  unfold guC bD
  unfold GT.cells gC qD at hof
  generalize x.g.pass (qOf x b am) = g2 at *
  replace hof : Pur Try.prog 49 [_, _, _, _] (.tup [.agg [.int .i64 g2.l0, .int .i64 g2.l1, .int .i64 g2.l2, .int .i64 g2.b0, .int .i64 g2.b1, .int .i64 g2.b2, .int .i64 g2.now, .slice .frozen g2.past.length (qsC g2.past), .slice .frozen g2.queue.length (qsC g2.queue)], .bool true, .int .i64 0]) := hof
  generalize bdC x.hd = y1 at *
  generalize bdC x.dn = y2 at *
  generalize bs x.la = y3 at *
  generalize bs x.si = y4 at *
  generalize qsC x.f.past = z1 at *
  generalize qsC x.f.queue = z2 at *
  generalize qsC x.g.past = z3 at *
  generalize qsC x.g.queue = z4 at *
  generalize qsC g2.past = z5 at *
  generalize qsC g2.queue = z6 at *
  generalize hbce : b.cells = bc at *
  generalize b.id = bi at *
  generalize b.c = bch at *
  refine fn_intro Try.func27 rfl Try.ntmps27 rfl fun B => ?_
  repeat (first | with_reducible (first | refine W_seq ?_ | refine q_then ?_ | refine W_ret ?_ | refine W_skip ?_) | (with_reducible refine R_nil ?_; try dsimp only [slots0, slots_ud, cells_U, agg_ud, drop0, dropS, takeS, take0, ud_nil, take_ud, take_ud0, drop_ud, drop_ud0, take_udk, D.cells, D.fz, D.fzs, List.take_succ_cons, List.take_zero, List.drop_succ_cons, List.drop_zero, List.cons_append, List.nil_append, List.append_eq, List.length_cons, List.length_nil, Nat.reduceAdd, Nat.reduceMul, Nat.reduceSub, Int.reduceAdd, Int.reduceSub, Int.reduceToNat, Int.reduceNeg, Int.reduceMul]) | refine W_plain rfl ?_ | refine W_drawn mixed rfl ?_ | refine and_chk (by kernel_rfl) ?_ | refine k_load rfl rfl rfl (gcut _ _ _ _ _ _ _ _ _ _) ?_ | refine k_load rfl rfl rfl (hball _) ?_ | refine k_load rfl rfl rfl (hcc _) ?_ | refine k_buildSlice rfl rfl hbs hbfz1 hbc rfl rfl ?_ | (refine k_append rfl rfl rfl ?_ z2l h1c rfl s2 rfl rfl (by exact hap) ?_; (rfl)) | refine k_move rfl rfl ?_ | refine k_assign rfl rfl ?_ | refine k_load rfl rfl rfl rfl ?_ | refine k_alloc rfl ?_ | refine k_box rfl rfl rfl ?_ | refine k_store rfl rfl rfl rfl rfl rfl rfl ?_ | refine k_extract rfl rfl rfl ?_ | refine k_fieldAddr rfl rfl rfl ?_ | refine k_call rfl hi rfl hbfz hbcl rfl ?_ | refine k_call rfl hwo rfl hbfz hbcl rfl ?_ | refine k_call rfl hof rfl rfl rfl rfl ?_ | refine k_call rfl hbo rfl hbfz hbcl hbc1 ?_ | (refine k_append rfl rfl rfl ?_ ?_ ?_ rfl ?_ rfl rfl rfl ?_; (first | rfl | exact trivial | (show 0 < _; omega)); (first | rfl | (simp <;> omega)); (first | rfl | (simp <;> omega)); (omega)) | refine k_buildSlice (cs := []) rfl rfl rfl rfl rfl rfl rfl ?_ | refine k_buildSlice rfl rfl rfl rfl rfl rfl rfl ?_ | (refine k_neqF rfl rfl rfl ?_ ?_; (omega)) | refine W_yes rfl ?_ | refine W_no rfl ?_)
  first | exact (q_endf (fun l => if l = 2 then 7 else l) 3 (RetsF.r2 (by first | exact RetV.tmp _ _ rfl | exact RetV.cell _ _ _ _ _ _ _ _ inferInstance rfl rfl rfl) (by first | exact Up.refl _ | exact Up.fz _ _ _ | exact Up.nil _) (by first | exact RetV.tmp _ _ rfl | exact RetV.cell _ _ _ _ _ _ _ _ inferInstance rfl rfl rfl) (by first | exact Up.refl _ | exact Up.fz _ _ _ | exact Up.nil _)) rfl (by repeat (first | exact trivial | refine ⟨⟨rfl, _, rfl, Ups.refl _, rfl⟩, ?_⟩ | refine ⟨⟨rfl, rfl⟩, ?_⟩)) rfl rfl rfl).2 | exact (q_endf (fun l => if l = 2 then 7 else l) 3 (RetsF.r2 (by first | exact RetV.tmp _ _ rfl | exact RetV.cell _ _ _ _ _ _ _ _ inferInstance rfl rfl rfl) (by first | exact Up.refl _ | exact Up.fz _ _ _ | exact Up.nil _) (by first | exact RetV.tmp _ _ rfl | exact RetV.cell _ _ _ _ _ _ _ _ inferInstance rfl rfl rfl) (by first | exact Up.refl _ | exact Up.fz _ _ _ | exact Up.nil _)) rfl (by repeat (first | exact trivial | refine ⟨⟨rfl, _, rfl, Ups.refl _, rfl⟩, ?_⟩ | refine ⟨⟨rfl, rfl⟩, ?_⟩)) rfl rfl rfl).1
set_option maxHeartbeats 16000000 in
theorem Met_hold (hf : x.g.fits (qOf x b am) = false) : Fn Try.prog 27 2 [.agg (guO x 0 1), .agg b.cells] [(0, some (.tok 52 38)), (1, some (.tok 52 38))] (.tup [.agg (guO (x.hold b am) 2 1), .int .i64 0]) [(1, some (.tok 52 38)), (2, some (.tok 52 38))] := by
  have hi := Id_ok b hb
  have hwo := Worth_ok b hb am hw
  have hidl : b.id < 1099511627776 := by unfold BodyT.id; omega
  have hof := Offer_ok x.g h.g b.id am b.c hidl hw.1 hc3 _ rfl
  rw [offNew x.g ⟨b.id, am, b.c, x.g.now⟩ hn hq, show x.g.fits ⟨b.id, am, b.c, x.g.now⟩ = false from hf, if_neg (by decide)] at hof
  rw [show (⟨b.id, am, b.c, x.g.now⟩ : QT) = qOf x b am from rfl] at hof
  have hbo := gbody_ok b hb.e (by have := hb.l; omega)
  have hbl := bd_len hb.e
  have hball := bd_all hb.e
  have hbput := bd_put hb.e
  have hbc := bd_cls b
  have hbcl := bd_cl b
  have hbfz := bd_fz b
  have hbfz1 : D.fzs b.cells = b.cells := by have := hbfz; simpa [D.fzs, D.fz] using this
  have hbc1 : (D.agg b.cells).cl = true := hbc
  have hb38 : (D.agg b.cells).cells.length = 38 := hbl
  have h1c : 1 * 38 = b.cells.length := by omega
  have hbs := one_fill b hb.e
  have hcc : ∀ ze, cut ⟨false, 1, ze⟩ 2 b.cells = some (.int .i64 (b.c : Int)) := fun _ => rfl
  have z1l : x.hd.length * 38 = (bdC x.hd).length := (bdC_len x.hd h.hd.em).symm
  have z2l : x.dn.length * 38 = (bdC x.dn).length := (bdC_len x.dn h.dn.em).symm
  have s1 : x.hd.length + 1 ≤ 16777216 := by have := h.hd.len; omega
  have s2 : x.dn.length + 1 ≤ 16777216 := by have := h.dn.len; omega
  have gcut : ∀ (l0 l1 l2 b0 b1 b2 now : D) (p q : D) ze, cut ⟨true, 9, ze⟩ 0 [l0, l1, l2, b0, b1, b2, now, p, q] = some (.agg [l0, l1, l2, b0, b1, b2, now, p, q]) := fun _ _ _ _ _ _ _ _ _ _ => rfl
  have hap : bdC x.hd ++ b.cells = bdC (x.hd ++ [b]) := by rw [bdC_app, bdC_one]
  have hln : x.hd.length + 1 = (x.hd ++ [b]).length := by rw [List.length_append]; rfl
  unfold guO GuT.hold
  dsimp only
  rw [← hln]
  obtain ⟨zz, hzz⟩ : ∃ z, bdC (x.hd ++ [b]) = z := ⟨_, rfl⟩
  rw [hzz] at hap ⊢
  unfold guC bD
  unfold GT.cells gC qD at hof
  generalize x.g.hold (qOf x b am) = g2 at *
  replace hof : Pur Try.prog 49 [_, _, _, _] (.tup [.agg [.int .i64 g2.l0, .int .i64 g2.l1, .int .i64 g2.l2, .int .i64 g2.b0, .int .i64 g2.b1, .int .i64 g2.b2, .int .i64 g2.now, .slice .frozen g2.past.length (qsC g2.past), .slice .frozen g2.queue.length (qsC g2.queue)], .bool false, .int .i64 0]) := hof
  generalize bdC x.hd = y1 at *
  generalize bdC x.dn = y2 at *
  generalize bs x.la = y3 at *
  generalize bs x.si = y4 at *
  generalize qsC x.f.past = z1 at *
  generalize qsC x.f.queue = z2 at *
  generalize qsC x.g.past = z3 at *
  generalize qsC x.g.queue = z4 at *
  generalize qsC g2.past = z5 at *
  generalize qsC g2.queue = z6 at *
  generalize hbce : b.cells = bc at *
  generalize b.id = bi at *
  generalize b.c = bch at *
  refine fn_intro Try.func27 rfl Try.ntmps27 rfl fun B => ?_
  repeat (first | with_reducible (first | refine W_seq ?_ | refine q_then ?_ | refine W_ret ?_ | refine W_skip ?_) | (with_reducible refine R_nil ?_; try dsimp only [slots0, slots_ud, cells_U, agg_ud, drop0, dropS, takeS, take0, ud_nil, take_ud, take_ud0, drop_ud, drop_ud0, take_udk, D.cells, D.fz, D.fzs, List.take_succ_cons, List.take_zero, List.drop_succ_cons, List.drop_zero, List.cons_append, List.nil_append, List.append_eq, List.length_cons, List.length_nil, Nat.reduceAdd, Nat.reduceMul, Nat.reduceSub, Int.reduceAdd, Int.reduceSub, Int.reduceToNat, Int.reduceNeg, Int.reduceMul]) | refine W_plain rfl ?_ | refine W_drawn mixed rfl ?_ | refine and_chk (by kernel_rfl) ?_ | refine k_load rfl rfl rfl (gcut _ _ _ _ _ _ _ _ _ _) ?_ | refine k_load rfl rfl rfl (hball _) ?_ | refine k_load rfl rfl rfl (hcc _) ?_ | refine k_buildSlice rfl rfl hbs hbfz1 hbc rfl rfl ?_ | (refine k_append rfl rfl rfl ?_ z1l h1c rfl s1 rfl rfl (by exact hap) ?_; (rfl)) | refine k_move rfl rfl ?_ | refine k_assign rfl rfl ?_ | refine k_load rfl rfl rfl rfl ?_ | refine k_alloc rfl ?_ | refine k_box rfl rfl rfl ?_ | refine k_store rfl rfl rfl rfl rfl rfl rfl ?_ | refine k_extract rfl rfl rfl ?_ | refine k_fieldAddr rfl rfl rfl ?_ | refine k_call rfl hi rfl hbfz hbcl rfl ?_ | refine k_call rfl hwo rfl hbfz hbcl rfl ?_ | refine k_call rfl hof rfl rfl rfl rfl ?_ | refine k_call rfl hbo rfl hbfz hbcl hbc1 ?_ | (refine k_append rfl rfl rfl ?_ ?_ ?_ rfl ?_ rfl rfl rfl ?_; (first | rfl | exact trivial | (show 0 < _; omega)); (first | rfl | (simp <;> omega)); (first | rfl | (simp <;> omega)); (omega)) | refine k_buildSlice (cs := []) rfl rfl rfl rfl rfl rfl rfl ?_ | refine k_buildSlice rfl rfl rfl rfl rfl rfl rfl ?_ | (refine k_neqF rfl rfl rfl ?_ ?_; (omega)) | refine W_no rfl ?_)
  first | exact (q_endf (fun l => if l = 2 then 7 else l) 3 (RetsF.r2 (by first | exact RetV.tmp _ _ rfl | exact RetV.cell _ _ _ _ _ _ _ _ inferInstance rfl rfl rfl) (by first | exact Up.refl _ | exact Up.fz _ _ _ | exact Up.nil _) (by first | exact RetV.tmp _ _ rfl | exact RetV.cell _ _ _ _ _ _ _ _ inferInstance rfl rfl rfl) (by first | exact Up.refl _ | exact Up.fz _ _ _ | exact Up.nil _)) rfl (by repeat (first | exact trivial | refine ⟨⟨rfl, _, rfl, Ups.refl _, rfl⟩, ?_⟩ | refine ⟨⟨rfl, rfl⟩, ?_⟩)) rfl rfl rfl).2 | exact (q_endf (fun l => if l = 2 then 7 else l) 3 (RetsF.r2 (by first | exact RetV.tmp _ _ rfl | exact RetV.cell _ _ _ _ _ _ _ _ inferInstance rfl rfl rfl) (by first | exact Up.refl _ | exact Up.fz _ _ _ | exact Up.nil _) (by first | exact RetV.tmp _ _ rfl | exact RetV.cell _ _ _ _ _ _ _ _ inferInstance rfl rfl rfl) (by first | exact Up.refl _ | exact Up.fz _ _ _ | exact Up.nil _)) rfl (by repeat (first | exact trivial | refine ⟨⟨rfl, _, rfl, Ups.refl _, rfl⟩, ?_⟩ | refine ⟨⟨rfl, rfl⟩, ?_⟩)) rfl rfl rfl).1
end
end Go.Proofs.Ytcfefmbbbfdppaa
