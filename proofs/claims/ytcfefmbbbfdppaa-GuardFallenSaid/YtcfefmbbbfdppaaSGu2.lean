/- guard: fresh, Begin, knows, hours, meeting, kept. Conditions: as said. -/
import Derived.Test.YtcfefmbbbfdppaaSGu1
import Derived.Test.YtcfefmbbbfdppaaSGl
import Derived.Test.YtcfefmbbbfdppaaSGd
namespace Go.Proofs.Ytcfefmbbbfdppaa
open Go.RowKit Go.Lib Go.IntWalk
set_option linter.unusedVariables false
set_option maxRecDepth 100000
theorem pur_up {P : Program} {F : FuncId} {ds : List D} {d e : D} (h : Pur P F ds d) (u : Up d e) : Pur P F ds e := fun w hw vs hg hok hr => by
  refine (h w hw vs hg hok hr).mono fun x w' hx => ?_
  obtain ⟨v, hw', h1, h2, h3, h4, h5⟩ := hx
  exact ⟨v, hw', h1, h2, h3, h4, u.rep h5⟩
structure GuT where
  f : GT
  g : GT
  la : List UInt8
  si : List UInt8
  hd : List BodyT
  dn : List BodyT
def guC (f g : GT) (la si hd dn : D) : List D := [.int .u64 5, .int .u64 0, .int .u64 0, .int .u64 0,
  .int .i64 f.l0, .int .i64 f.l1, .int .i64 f.l2, .int .i64 f.b0, .int .i64 f.b1, .int .i64 f.b2, .int .i64 f.now, .slice .frozen f.past.length (qsC f.past), .slice .frozen f.queue.length (qsC f.queue),
  .int .i64 g.l0, .int .i64 g.l1, .int .i64 g.l2, .int .i64 g.b0, .int .i64 g.b1, .int .i64 g.b2, .int .i64 g.now, .slice .frozen g.past.length (qsC g.past), .slice .frozen g.queue.length (qsC g.queue), la, si, hd, dn]
def bD (l : List UInt8) : D := .slice .frozen l.length (bs l)
def mD (l : List BodyT) : D := .slice .frozen l.length (bdC l)
def GuT.cells (x : GuT) : List D := guC x.f x.g (bD x.la) (bD x.si) (mD x.hd) (mD x.dn)
structure Ml (l : List BodyT) : Prop where
  ok : ∀ b ∈ l, b.ok
  len : l.length ≤ 200
theorem Ml.em {l : List BodyT} (h : Ml l) : Em l := fun b hb => (h.ok b hb).e
theorem Ml.ld {l : List BodyT} (h : Ml l) : ∀ b ∈ l, b.l.length ≤ 10000 := fun b hb => by have := (h.ok b hb).l; omega
structure GuT.ok (x : GuT) : Prop where
  f : x.f.ok
  g : x.g.ok
  log : x.la.length + x.si.length ≤ 9000
  hd : Ml x.hd
  dn : Ml x.dn
theorem qfresh_ok (l : List QT) (n : Nat) (hn : l.length = n) (h9 : n ≤ 1000) : Pur Try.prog 40 [.slice .frozen n (qsC l)] (.slice .frozen n (qsC l)) := by
  have hp := qs_len l
  rw [hn] at hp
  generalize qsC l = z at *
  have hz1 : n * 4 = z.length := hp.symm
  have s1 : 0 + n ≤ 16777216 := by omega
  refine pur_intro Try.func40 rfl Try.ntmps40 rfl (by first | rfl | assumption | exact bs_cl _) fun B => ?_
  repeat (first | with_reducible (first | refine W_seq ?_ | refine q_then ?_ | refine W_ret ?_) | (with_reducible refine R_nil ?_; try dsimp only [slots0, slots_ud, cells_U, agg_ud, drop0, dropS, takeS, take0, ud_nil, take_ud, take_ud0, drop_ud, drop_ud0, take_udk, D.cells, D.fz, D.fzs, List.take_succ_cons, List.take_zero, List.drop_succ_cons, List.drop_zero, List.cons_append, List.nil_append, List.append_eq, List.length_cons, List.length_nil, Nat.reduceAdd, Nat.reduceMul, Nat.reduceSub, Int.reduceAdd, Int.reduceSub, Int.reduceToNat, Int.reduceNeg, Int.reduceMul]) | refine W_plain rfl ?_ | refine and_chk (by kernel_rfl) ?_ | (refine k_append rfl rfl rfl ?_ rfl hz1 rfl s1 rfl (Nat.zero_add _) (List.nil_append _) ?_; (rfl)) | refine k_move rfl rfl ?_ | refine k_assign rfl rfl ?_ | (refine k_append rfl rfl rfl ?_ ?_ ?_ rfl ?_ rfl rfl rfl ?_; (first | rfl | exact trivial | (show 0 < _; omega)); (first | rfl | (simp <;> omega)); (first | rfl | (simp <;> omega)); (omega)) | refine k_buildSlice (cs := []) rfl rfl rfl rfl rfl rfl rfl ?_ | refine k_buildSlice rfl rfl rfl rfl rfl rfl rfl ?_)
  (first | with_reducible refine q_endr ?_); refine rets1 Try.results40 (by first | exact RetV.tmp _ _ rfl | exact RetV.cell _ _ _ _ _ _ _ _ inferInstance rfl rfl rfl) ?_
  rfl
set_option maxHeartbeats 16000000 in
theorem fresh_fn (x : GuT) (h : x.ok) : Fn Try.prog 19 0 [.agg x.cells] [] (.agg (guC x.f x.g (bD x.la) (bD x.si) (.slice (.own 0) x.hd.length (bdC x.hd)) (.slice (.own 1) x.dn.length (bdC x.dn)))) [(0, some (.tok 52 38)), (1, some (.tok 52 38))] := by
  obtain ⟨⟨_, _, p1, p2, _, _⟩, ⟨_, _, p3, p4, _, _⟩, hlog, hhd, hdn⟩ := h
  have q1 := qfresh_ok x.f.past _ rfl (by omega)
  have q2 := qfresh_ok x.f.queue _ rfl (by omega)
  have q3 := qfresh_ok x.g.past _ rfl (by omega)
  have q4 := qfresh_ok x.g.queue _ rfl (by omega)
  have b1 := bodies_fn x.hd hhd.em hhd.ld _ rfl (by have := hhd.len; omega)
  have b2 := bodies_fn x.dn hdn.em hdn.ld _ rfl (by have := hdn.len; omega)
  have l1 : x.la.length * 1 = (bs x.la).length := by rw [bs_len]; omega
  have l2 : x.si.length * 1 = (bs x.si).length := by rw [bs_len]; omega
  have s1 : 0 + x.la.length ≤ 16777216 := by omega
  have s2 : 0 + x.si.length ≤ 16777216 := by omega
  unfold GuT.cells guC bD mD
  generalize bs x.la = y1 at *
  generalize bs x.si = y2 at *
  generalize bdC x.hd = y3 at *
  generalize bdC x.dn = y4 at *
  generalize qsC x.f.past = z1 at *
  generalize qsC x.f.queue = z2 at *
  generalize qsC x.g.past = z3 at *
  generalize qsC x.g.queue = z4 at *
  refine fn_intro Try.func19 rfl Try.ntmps19 rfl fun B => ?_
  repeat (first | with_reducible (first | refine W_seq ?_ | refine q_then ?_ | refine W_ret ?_) | (with_reducible refine R_nil ?_; try dsimp only [slots0, slots_ud, cells_U, agg_ud, drop0, dropS, takeS, take0, ud_nil, take_ud, take_ud0, drop_ud, drop_ud0, take_udk, D.cells, D.fz, D.fzs, List.take_succ_cons, List.take_zero, List.drop_succ_cons, List.drop_zero, List.cons_append, List.nil_append, List.append_eq, List.length_cons, List.length_nil, Nat.reduceAdd, Nat.reduceMul, Nat.reduceSub, Int.reduceAdd, Int.reduceSub, Int.reduceToNat, Int.reduceNeg, Int.reduceMul]) | refine W_plain rfl ?_ | refine W_drawn mixed rfl ?_ | refine and_chk (by kernel_rfl) ?_ | (refine k_append rfl rfl rfl ?_ rfl l1 rfl s1 rfl (Nat.zero_add _) (List.nil_append _) ?_; (rfl)) | (refine k_append rfl rfl rfl ?_ rfl l2 rfl s2 rfl (Nat.zero_add _) (List.nil_append _) ?_; (rfl)) | refine k_move rfl rfl ?_ | refine k_assign rfl rfl ?_ | refine k_load rfl rfl rfl rfl ?_ | refine k_alloc rfl ?_ | refine k_box rfl rfl rfl ?_ | refine k_store rfl rfl rfl rfl rfl rfl rfl ?_ | refine k_fieldAddr rfl rfl rfl ?_ | refine k_build rfl rfl rfl ?_ | refine k_callv rfl q1 rfl rfl rfl rfl rfl ?_ | refine k_callv rfl q2 rfl rfl rfl rfl rfl ?_ | refine k_callv rfl q3 rfl rfl rfl rfl rfl ?_ | refine k_callv rfl q4 rfl rfl rfl rfl rfl ?_ | refine k_callf (fun l => l + 6) [0] (7) rfl (b1) rfl (by first | exact Ups.refl _ | assumption | ((repeat refine Ups.cons (by first | exact Up.refl _ | exact Up.nil _ | exact Up.fz _ _ _) ?_); exact Ups.nil)) (rfl) (by (repeat (first | refine ⟨⟨rfl, _, rfl, (by first | exact Ups.refl _ | assumption | ((repeat refine Ups.cons (by first | exact Up.refl _ | exact Up.nil _ | exact Up.fz _ _ _) ?_); exact Ups.nil)), rfl⟩, ?_⟩ | refine ⟨⟨rfl, rfl⟩, ?_⟩)); exact trivial) rfl rfl rfl rfl (rfl) (rfl) rfl rfl rfl rfl ?_ | refine k_callf (fun l => l + 7) [0] (8) rfl (b2) rfl (by first | exact Ups.refl _ | assumption | ((repeat refine Ups.cons (by first | exact Up.refl _ | exact Up.nil _ | exact Up.fz _ _ _) ?_); exact Ups.nil)) (rfl) (by (repeat (first | refine ⟨⟨rfl, _, rfl, (by first | exact Ups.refl _ | assumption | ((repeat refine Ups.cons (by first | exact Up.refl _ | exact Up.nil _ | exact Up.fz _ _ _) ?_); exact Ups.nil)), rfl⟩, ?_⟩ | refine ⟨⟨rfl, rfl⟩, ?_⟩)); exact trivial) rfl rfl rfl rfl (rfl) (rfl) rfl rfl rfl rfl ?_ | (refine k_append rfl rfl rfl ?_ ?_ ?_ rfl ?_ rfl rfl rfl ?_; (first | rfl | exact trivial | (show 0 < _; omega)); (first | rfl | (simp <;> omega)); (first | rfl | (simp <;> omega)); (omega)) | refine k_buildSlice (cs := []) rfl rfl rfl rfl rfl rfl rfl ?_ | refine k_buildSlice rfl rfl rfl rfl rfl rfl rfl ?_)
  exact (q_endf (fun l => l + 6) 2 (RetsF.r1 (RetV.cell _ _ _ _ _ _ _ _ inferInstance rfl rfl rfl) (.agg_ (by (repeat refine Ups.cons (by first | exact Up.refl _ | exact Up.nil _ | exact Up.fz _ _ _) ?_); exact Ups.nil))) rfl (by repeat (first | exact trivial | refine ⟨⟨rfl, _, rfl, Ups.refl _, rfl⟩, ?_⟩ | refine ⟨⟨rfl, rfl⟩, ?_⟩)) rfl rfl rfl).2
set_option maxHeartbeats 16000000 in
theorem fresh_ok (x : GuT) (h : x.ok) : Pur Try.prog 19 [.agg x.cells] (.agg x.cells) := by
  obtain ⟨⟨_, _, p1, p2, _, _⟩, ⟨_, _, p3, p4, _, _⟩, hlog, hhd, hdn⟩ := h
  have q1 := qfresh_ok x.f.past _ rfl (by omega)
  have q2 := qfresh_ok x.f.queue _ rfl (by omega)
  have q3 := qfresh_ok x.g.past _ rfl (by omega)
  have q4 := qfresh_ok x.g.queue _ rfl (by omega)
  have b1 := bodies_fn x.hd hhd.em hhd.ld _ rfl (by have := hhd.len; omega)
  have b2 := bodies_fn x.dn hdn.em hdn.ld _ rfl (by have := hdn.len; omega)
  have l1 : x.la.length * 1 = (bs x.la).length := by rw [bs_len]; omega
  have l2 : x.si.length * 1 = (bs x.si).length := by rw [bs_len]; omega
  have s1 : 0 + x.la.length ≤ 16777216 := by omega
  have s2 : 0 + x.si.length ≤ 16777216 := by omega
  unfold GuT.cells guC bD mD
  generalize bs x.la = y1 at *
  generalize bs x.si = y2 at *
  generalize bdC x.hd = y3 at *
  generalize bdC x.dn = y4 at *
  generalize qsC x.f.past = z1 at *
  generalize qsC x.f.queue = z2 at *
  generalize qsC x.g.past = z3 at *
  generalize qsC x.g.queue = z4 at *
  refine pur_intro Try.func19 rfl Try.ntmps19 rfl (by first | rfl | assumption | exact bs_cl _) fun B => ?_
  repeat (first | with_reducible (first | refine W_seq ?_ | refine q_then ?_ | refine W_ret ?_) | (with_reducible refine R_nil ?_; try dsimp only [slots0, slots_ud, cells_U, agg_ud, drop0, dropS, takeS, take0, ud_nil, take_ud, take_ud0, drop_ud, drop_ud0, take_udk, D.cells, D.fz, D.fzs, List.take_succ_cons, List.take_zero, List.drop_succ_cons, List.drop_zero, List.cons_append, List.nil_append, List.append_eq, List.length_cons, List.length_nil, Nat.reduceAdd, Nat.reduceMul, Nat.reduceSub, Int.reduceAdd, Int.reduceSub, Int.reduceToNat, Int.reduceNeg, Int.reduceMul]) | refine W_plain rfl ?_ | refine W_drawn mixed rfl ?_ | refine and_chk (by kernel_rfl) ?_ | (refine k_append rfl rfl rfl ?_ rfl l1 rfl s1 rfl (Nat.zero_add _) (List.nil_append _) ?_; (rfl)) | (refine k_append rfl rfl rfl ?_ rfl l2 rfl s2 rfl (Nat.zero_add _) (List.nil_append _) ?_; (rfl)) | refine k_move rfl rfl ?_ | refine k_assign rfl rfl ?_ | refine k_load rfl rfl rfl rfl ?_ | refine k_alloc rfl ?_ | refine k_box rfl rfl rfl ?_ | refine k_store rfl rfl rfl rfl rfl rfl rfl ?_ | refine k_fieldAddr rfl rfl rfl ?_ | refine k_build rfl rfl rfl ?_ | refine k_callv rfl q1 rfl rfl rfl rfl rfl ?_ | refine k_callv rfl q2 rfl rfl rfl rfl rfl ?_ | refine k_callv rfl q3 rfl rfl rfl rfl rfl ?_ | refine k_callv rfl q4 rfl rfl rfl rfl rfl ?_ | refine k_callf (fun l => l + 6) [0] (7) rfl (b1) rfl (by first | exact Ups.refl _ | assumption | ((repeat refine Ups.cons (by first | exact Up.refl _ | exact Up.nil _ | exact Up.fz _ _ _) ?_); exact Ups.nil)) (rfl) (by (repeat (first | refine ⟨⟨rfl, _, rfl, (by first | exact Ups.refl _ | assumption | ((repeat refine Ups.cons (by first | exact Up.refl _ | exact Up.nil _ | exact Up.fz _ _ _) ?_); exact Ups.nil)), rfl⟩, ?_⟩ | refine ⟨⟨rfl, rfl⟩, ?_⟩)); exact trivial) rfl rfl rfl rfl (rfl) (rfl) rfl rfl rfl rfl ?_ | refine k_callf (fun l => l + 7) [0] (8) rfl (b2) rfl (by first | exact Ups.refl _ | assumption | ((repeat refine Ups.cons (by first | exact Up.refl _ | exact Up.nil _ | exact Up.fz _ _ _) ?_); exact Ups.nil)) (rfl) (by (repeat (first | refine ⟨⟨rfl, _, rfl, (by first | exact Ups.refl _ | assumption | ((repeat refine Ups.cons (by first | exact Up.refl _ | exact Up.nil _ | exact Up.fz _ _ _) ?_); exact Ups.nil)), rfl⟩, ?_⟩ | refine ⟨⟨rfl, rfl⟩, ?_⟩)); exact trivial) rfl rfl rfl rfl (rfl) (rfl) rfl rfl rfl rfl ?_ | (refine k_append rfl rfl rfl ?_ ?_ ?_ rfl ?_ rfl rfl rfl ?_; (first | rfl | exact trivial | (show 0 < _; omega)); (first | rfl | (simp <;> omega)); (first | rfl | (simp <;> omega)); (omega)) | refine k_buildSlice (cs := []) rfl rfl rfl rfl rfl rfl rfl ?_ | refine k_buildSlice rfl rfl rfl rfl rfl rfl rfl ?_)
  (first | with_reducible refine q_endr ?_); refine rets1 Try.results19 (by first | exact RetV.tmp _ _ rfl | exact RetV.cell _ _ _ _ _ _ _ _ inferInstance rfl rfl rfl) ?_
  rfl
def u5 : D := .agg [.int .u64 5, .int .u64 0, .int .u64 0, .int .u64 0]
set_option maxHeartbeats 16000000 in
theorem Begin_fn (g : GT) (hg : g.ok) : Fn Try.prog 17 0 [u5, .agg g.cells] [] (.tup [.agg (guC g g (.slice .frozen 0 []) (.slice .frozen 0 []) (.slice (.own 0) 0 []) (.slice (.own 1) 0 [])), .int .i64 0]) [(0, some (.tok 52 38)), (1, some (.tok 52 38))] := by
  have hck := gCheck_ok g hg
  have fr := fresh_fn ⟨g, g, [], [], [], []⟩ ⟨hg, hg, Nat.zero_le _, ⟨fun b h => absurd h List.not_mem_nil, Nat.zero_le _⟩, ⟨fun b h => absurd h List.not_mem_nil, Nat.zero_le _⟩⟩
  replace fr : Fn Try.prog 19 0 [.agg (guC g g (.slice .frozen 0 []) (.slice .frozen 0 []) (.slice .frozen 0 []) (.slice .frozen 0 []))] [] (.agg (guC g g (.slice .frozen 0 []) (.slice .frozen 0 []) (.slice (.own 0) 0 []) (.slice (.own 1) 0 []))) [(0, some (.tok 52 38)), (1, some (.tok 52 38))] := fr
  have gcut : ∀ (l0 l1 l2 b0 b1 b2 now : D) (p q : D) ze, cut ⟨true, 9, ze⟩ 0 [l0, l1, l2, b0, b1, b2, now, p, q] = some (.agg [l0, l1, l2, b0, b1, b2, now, p, q]) := fun _ _ _ _ _ _ _ _ _ _ => rfl
  unfold GT.cells gC qD at *
  unfold guC at *
  unfold u5
  generalize qsC g.past = z1 at *
  generalize qsC g.queue = z2 at *
  refine fn_intro Try.func17 rfl Try.ntmps17 rfl fun B => ?_
  repeat (first | with_reducible (first | refine W_seq ?_ | refine q_then ?_ | refine W_ret ?_ | refine W_skip ?_) | (with_reducible refine R_nil ?_; try dsimp only [slots0, slots_ud, cells_U, agg_ud, drop0, dropS, takeS, take0, ud_nil, take_ud, take_ud0, drop_ud, drop_ud0, take_udk, D.cells, D.fz, D.fzs, List.take_succ_cons, List.take_zero, List.drop_succ_cons, List.drop_zero, List.cons_append, List.nil_append, List.append_eq, List.length_cons, List.length_nil, Nat.reduceAdd, Nat.reduceMul, Nat.reduceSub, Int.reduceAdd, Int.reduceSub, Int.reduceToNat, Int.reduceNeg, Int.reduceMul]) | refine W_plain rfl ?_ | refine and_chk (by kernel_rfl) ?_ | refine k_load rfl rfl rfl (gcut _ _ _ _ _ _ _ _ _ _) ?_ | refine k_move rfl rfl ?_ | refine k_assign rfl rfl ?_ | refine k_load rfl rfl rfl rfl ?_ | refine k_alloc rfl ?_ | refine k_box rfl rfl rfl ?_ | refine k_store rfl rfl rfl rfl rfl rfl rfl ?_ | refine k_build rfl rfl rfl ?_ | refine k_call rfl hck rfl rfl rfl rfl ?_ | refine k_callf (fun l => l + 3) [0, 1] (5) rfl (fr) rfl (.cons (.agg_ (by (repeat refine Ups.cons (by first | exact Up.refl _ | exact Up.nil _ | exact Up.fz _ _ _) ?_); exact Ups.nil)) .nil) (rfl) (by (repeat (first | refine ⟨⟨rfl, _, rfl, (by first | exact Ups.refl _ | assumption | ((repeat refine Ups.cons (by first | exact Up.refl _ | exact Up.nil _ | exact Up.fz _ _ _) ?_); exact Ups.nil)), rfl⟩, ?_⟩ | refine ⟨⟨rfl, rfl⟩, ?_⟩)); exact trivial) rfl rfl rfl rfl (rfl) (rfl) rfl rfl rfl rfl ?_ | (refine k_append rfl rfl rfl ?_ ?_ ?_ rfl ?_ rfl rfl rfl ?_; (first | rfl | exact trivial | (show 0 < _; omega)); (first | rfl | (simp <;> omega)); (first | rfl | (simp <;> omega)); (omega)) | (refine k_neqF rfl rfl rfl ?_ ?_; (omega)) | refine W_no rfl ?_)
  first | exact (q_endf (fun l => l + 3) 2 (RetsF.r2 (by first | exact RetV.tmp _ _ rfl | exact RetV.cell _ _ _ _ _ _ _ _ inferInstance rfl rfl rfl) (by first | exact Up.refl _ | exact Up.fz _ _ _ | exact Up.nil _) (by first | exact RetV.tmp _ _ rfl | exact RetV.cell _ _ _ _ _ _ _ _ inferInstance rfl rfl rfl) (by first | exact Up.refl _ | exact Up.fz _ _ _ | exact Up.nil _)) rfl (by repeat (first | exact trivial | refine ⟨⟨rfl, _, rfl, Ups.refl _, rfl⟩, ?_⟩ | refine ⟨⟨rfl, rfl⟩, ?_⟩)) rfl rfl rfl).2 | exact (q_endf (fun l => l + 3) 2 (RetsF.r2 (by first | exact RetV.tmp _ _ rfl | exact RetV.cell _ _ _ _ _ _ _ _ inferInstance rfl rfl rfl) (by first | exact Up.refl _ | exact Up.fz _ _ _ | exact Up.nil _) (by first | exact RetV.tmp _ _ rfl | exact RetV.cell _ _ _ _ _ _ _ _ inferInstance rfl rfl rfl) (by first | exact Up.refl _ | exact Up.fz _ _ _ | exact Up.nil _)) rfl (by repeat (first | exact trivial | refine ⟨⟨rfl, _, rfl, Ups.refl _, rfl⟩, ?_⟩ | refine ⟨⟨rfl, rfl⟩, ?_⟩)) rfl rfl rfl).1
theorem hours_ok (n : Nat) (h : n ≤ 1000) : Pur Try.prog 21 [.int .i64 n] (.slice .frozen 3 (bs [2, UInt8.ofNat (n / 256), UInt8.ofNat n])) := by
  have e1 : (n : Int).fdiv (2 ^ (min (8 : Int).toNat IntKind.i64.bits)) = ((n / 256 : Nat) : Int) := by
    show (n : Int).fdiv 256 = _
    rw [Int.fdiv_eq_ediv_of_nonneg _ (by decide)]; omega
  have e2 : IntKind.u8.wrap ((n / 256 : Nat) : Int) = (((UInt8.ofNat (n / 256)).toNat : Nat) : Int) := by rw [UInt8.toNat_ofNat', IntKind.wrap_u8]; omega
  have e3 : IntKind.u8.wrap (n : Int) = (((UInt8.ofNat n).toNat : Nat) : Int) := by rw [UInt8.toNat_ofNat', IntKind.wrap_u8]; omega
  generalize UInt8.ofNat (n / 256) = a at *
  generalize UInt8.ofNat n = b at *
  refine pur_intro Try.func21 rfl Try.ntmps21 rfl (by first | rfl | assumption | exact bs_cl _) fun B => ?_
  repeat (first | with_reducible (first | refine W_seq ?_ | refine q_then ?_ | refine W_ret ?_) | (with_reducible refine R_nil ?_; try dsimp only [slots0, slots_ud, cells_U, agg_ud, drop0, dropS, takeS, take0, ud_nil, take_ud, take_ud0, drop_ud, drop_ud0, take_udk, D.cells, D.fz, D.fzs, List.take_succ_cons, List.take_zero, List.drop_succ_cons, List.drop_zero, List.cons_append, List.nil_append, List.append_eq, List.length_cons, List.length_nil, Nat.reduceAdd, Nat.reduceMul, Nat.reduceSub, Int.reduceAdd, Int.reduceSub, Int.reduceToNat, Int.reduceNeg, Int.reduceMul]) | refine W_plain rfl ?_ | refine and_chk (by kernel_rfl) ?_ | (refine k_shr rfl rfl rfl ?_ e1 ?_; (decide)) | refine k_conv rfl rfl e2 ?_ | refine k_conv rfl rfl e3 ?_ | refine k_move rfl rfl ?_ | refine k_assign rfl rfl ?_ | (refine k_append rfl rfl rfl ?_ ?_ ?_ rfl ?_ rfl rfl rfl ?_; (first | rfl | exact trivial | (show 0 < _; omega)); (first | rfl | (simp <;> omega)); (first | rfl | (simp <;> omega)); (omega)) | refine k_buildSlice (cs := []) rfl rfl rfl rfl rfl rfl rfl ?_ | refine k_buildSlice rfl rfl rfl rfl rfl rfl rfl ?_)
  (first | with_reducible refine q_endr ?_); refine rets1 Try.results21 (by first | exact RetV.tmp _ _ rfl | exact RetV.cell _ _ _ _ _ _ _ _ inferInstance rfl rfl rfl) ?_
  rfl
theorem meeting_ok (b : BodyT) (h : b.ok) (n : Nat) (hn : b.out.length = n) : Pur Try.prog 35 [.agg b.cells] (.tup [.slice .frozen (1 + n) (bs (1 :: b.out)), .int .i64 0]) := by
  have hb := pBytes_ok b h n hn
  have hall := bd_all h.e
  have hf := bd_fz b
  have hc := bd_cl b
  have hbl : n * 1 = (bs b.out).length := by rw [bs_len, hn]; omega
  have hn9 : n ≤ 1000 := by rw [← hn, b.out_len h]; have := h.l; omega
  have hsm : 1 + n ≤ 16777216 := by omega
  have hcat : [D.int .u8 1] ++ bs b.out = bs (1 :: b.out) := rfl
  generalize bs (1 :: b.out) = z1 at *
  generalize bs b.out = z at *
  generalize b.cells = bc at *
  refine pur_intro Try.func35 rfl Try.ntmps35 rfl (by first | rfl | assumption | exact bs_cl _) fun B => ?_
  repeat (first | with_reducible (first | refine W_seq ?_ | refine q_then ?_ | refine W_ret ?_) | (with_reducible refine R_nil ?_; try dsimp only [slots0, slots_ud, cells_U, agg_ud, drop0, dropS, takeS, take0, ud_nil, take_ud, take_ud0, drop_ud, drop_ud0, take_udk, D.cells, D.fz, D.fzs, List.take_succ_cons, List.take_zero, List.drop_succ_cons, List.drop_zero, List.cons_append, List.nil_append, List.append_eq, List.length_cons, List.length_nil, Nat.reduceAdd, Nat.reduceMul, Nat.reduceSub, Int.reduceAdd, Int.reduceSub, Int.reduceToNat, Int.reduceNeg, Int.reduceMul]) | refine W_plain rfl ?_ | refine and_chk (by kernel_rfl) ?_ | refine k_load rfl rfl rfl (hall _) ?_ | (refine k_append rfl rfl rfl ?_ rfl hbl rfl hsm rfl rfl (by exact hcat) ?_; (rfl)) | refine k_move rfl rfl ?_ | refine k_assign rfl rfl ?_ | refine k_load rfl rfl rfl rfl ?_ | refine k_box rfl rfl rfl ?_ | refine k_extract rfl rfl rfl ?_ | refine k_call rfl hb rfl hf hc rfl ?_ | (refine k_append rfl rfl rfl ?_ ?_ ?_ rfl ?_ rfl rfl rfl ?_; (first | rfl | exact trivial | (show 0 < _; omega)); (first | rfl | (simp <;> omega)); (first | rfl | (simp <;> omega)); (omega)) | refine k_buildSlice (cs := []) rfl rfl rfl rfl rfl rfl rfl ?_ | refine k_buildSlice rfl rfl rfl rfl rfl rfl rfl ?_)
  (first | with_reducible refine q_endr ?_); refine rets2 Try.results35 (by first | exact RetV.tmp _ _ rfl | exact RetV.cell _ _ _ _ _ _ _ _ inferInstance rfl rfl rfl) (by first | exact RetV.tmp _ _ rfl | exact RetV.cell _ _ _ _ _ _ _ _ inferInstance rfl rfl rfl) ?_ ?_
  · rfl
  · rfl
theorem Sync_fz (a b : By) (h : a.length + b.length ≤ 9000) : Pur Try.prog 42 [.agg (lg a b)] (.agg (lg (a ++ b) [])) := pur_up (Sync_at a b h) (.agg_ (lgn_ups _))
set_option maxHeartbeats 16000000 in
theorem kept_ok (x : GuT) (h : x.ok) (hsi : x.si = []) (r : List UInt8) (hr : r.length ≤ 200) (hl : x.la.length + r.length + 3 ≤ 9000) : Pur Try.prog 20 [.agg x.cells, .slice .frozen r.length (bs r)] (.tup [.agg (GuT.cells ⟨x.f, x.g, x.la ++ rec8 r, [], x.hd, x.dn⟩), .int .i64 0]) := by
  have ha := Append_ok x.la [] r hr (by rw [List.length_nil]; omega)
  have hrl := rec8_len r
  have hs := Sync_fz x.la (rec8 r) (by omega)
  rw [List.nil_append] at ha
  unfold GuT.cells
  rw [hsi]
  unfold guC bD mD lg at *
  generalize x.la ++ rec8 r = la2 at *
  generalize bs x.la = y1 at *
  generalize bs la2 = y2 at *
  generalize bs (rec8 r) = y3 at *
  generalize bdC x.hd = y5 at *
  generalize bdC x.dn = y4 at *
  generalize qsC x.f.past = z1 at *
  generalize qsC x.f.queue = z2 at *
  generalize qsC x.g.past = z3 at *
  generalize qsC x.g.queue = z4 at *
  generalize bs r = y6 at *
  refine pur_intro Try.func20 rfl Try.ntmps20 rfl (by first | rfl | assumption | exact bs_cl _) fun B => ?_
  repeat (first | with_reducible (first | refine W_seq ?_ | refine q_then ?_ | refine W_ret ?_ | refine W_skip ?_) | (with_reducible refine R_nil ?_; try dsimp only [slots0, slots_ud, cells_U, agg_ud, drop0, dropS, takeS, take0, ud_nil, take_ud, take_ud0, drop_ud, drop_ud0, take_udk, D.cells, D.fz, D.fzs, List.take_succ_cons, List.take_zero, List.drop_succ_cons, List.drop_zero, List.cons_append, List.nil_append, List.append_eq, List.length_cons, List.length_nil, Nat.reduceAdd, Nat.reduceMul, Nat.reduceSub, Int.reduceAdd, Int.reduceSub, Int.reduceToNat, Int.reduceNeg, Int.reduceMul]) | refine W_plain rfl ?_ | refine and_chk (by kernel_rfl) ?_ | refine k_move rfl rfl ?_ | refine k_assign rfl rfl ?_ | refine k_load rfl rfl rfl rfl ?_ | refine k_alloc rfl ?_ | refine k_box rfl rfl rfl ?_ | refine k_store rfl rfl rfl rfl rfl rfl rfl ?_ | refine k_extract rfl rfl rfl ?_ | refine k_fieldAddr rfl rfl rfl ?_ | refine k_call rfl ha rfl rfl rfl rfl ?_ | refine k_call rfl hs rfl rfl rfl rfl ?_ | (refine k_append rfl rfl rfl ?_ ?_ ?_ rfl ?_ rfl rfl rfl ?_; (first | rfl | exact trivial | (show 0 < _; omega)); (first | rfl | (simp <;> omega)); (first | rfl | (simp <;> omega)); (omega)) | (refine k_neqF rfl rfl rfl ?_ ?_; (omega)) | refine W_no rfl ?_)
  (first | with_reducible refine q_endr ?_); refine rets2 Try.results20 (by first | exact RetV.tmp _ _ rfl | exact RetV.cell _ _ _ _ _ _ _ _ inferInstance rfl rfl rfl) (by first | exact RetV.tmp _ _ rfl | exact RetV.cell _ _ _ _ _ _ _ _ inferInstance rfl rfl rfl) ?_ ?_
  · rfl
  · rfl
end Go.Proofs.Ytcfefmbbbfdppaa
