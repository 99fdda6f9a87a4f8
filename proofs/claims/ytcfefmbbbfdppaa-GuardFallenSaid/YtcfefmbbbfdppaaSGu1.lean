/- guard: bodies, Id, knows. Conditions: emitters of 32 bytes. -/
import Derived.Test.YtcfefmbbbfdppaaSGp
import Derived.Test.YtcfefmbbbfdppaaSGate4
import Derived.Test.YtcfefmbbbfdppaaSGd
namespace Go.Proofs.Ytcfefmbbbfdppaa
open Go.RowKit Go.Lib Go.IntWalk
set_option linter.unusedVariables false
set_option maxRecDepth 100000
def bdC (l : List BodyT) : List D := l.flatMap BodyT.cells
def Em (l : List BodyT) : Prop := ∀ b ∈ l, b.e.length = 32
theorem Em.take {l : List BodyT} (h : Em l) (j : Nat) : Em (l.take j) := fun x hx => h x (List.mem_of_mem_take hx)
theorem bdC_app (a b : List BodyT) : bdC (a ++ b) = bdC a ++ bdC b := List.flatMap_append
theorem bdC_one (b : BodyT) : bdC [b] = b.cells := by simp [bdC]
theorem bdC_len : ∀ (l : List BodyT), Em l → (bdC l).length = l.length * 38
  | [], _ => rfl
  | b :: l, h => by
    have h1 := bd_len (h b (List.mem_cons.2 (.inl rfl)))
    have h2 := bdC_len l fun x hx => h x (List.mem_cons.2 (.inr hx))
    show (b.cells ++ bdC l).length = _
    rw [List.length_append, h1, h2, List.length_cons]; omega
theorem bdC_cls (l : List BodyT) : D.cls (bdC l) = true := D.cls_of fun d hd => by
  obtain ⟨b, _, hb⟩ := List.mem_flatMap.1 hd
  exact D.cls_mem (bd_cls b) d hb
theorem bdC_drop (l : List BodyT) (h : Em l) (j : Nat) (hj : j ≤ l.length) : (bdC l).drop (j * 38) = bdC (l.drop j) := by
  have e : bdC l = bdC (l.take j) ++ bdC (l.drop j) := by rw [← bdC_app, List.take_append_drop]
  have hl := bdC_len (l.take j) (h.take j)
  rw [List.length_take, Nat.min_eq_left hj] at hl
  rw [e, List.drop_append, List.drop_of_length_le (by omega), hl, Nat.sub_self, List.drop_zero, List.nil_append]
theorem bdC_take (l : List BodyT) (h : Em l) (j : Nat) (hj : j ≤ l.length) : (bdC l).take (j * 38) = bdC (l.take j) := by
  have e : bdC l = bdC (l.take j) ++ bdC (l.drop j) := by rw [← bdC_app, List.take_append_drop]
  have hl := bdC_len (l.take j) (h.take j)
  rw [List.length_take, Nat.min_eq_left hj] at hl
  rw [e, List.take_append, List.take_of_length_le (by omega), hl, Nat.sub_self, List.take_zero, List.append_nil]
theorem bdC_cut (l : List BodyT) (h : Em l) (j : Nat) (b : BodyT) (hb : l[j]? = some b) (ze : List D) : cut ⟨true, 38, ze⟩ 0 ((bdC l).drop ((j : Int).toNat * 38)) = some (.agg b.cells) := by
  obtain ⟨hlt, hbe⟩ := List.getElem?_eq_some_iff.1 hb
  have h1 := bd_len (h b (List.mem_of_getElem? hb))
  rw [Int.toNat_natCast, bdC_drop l h j (by omega), List.drop_eq_getElem_cons hlt, hbe]
  show cut _ 0 (b.cells ++ bdC (l.drop (j + 1))) = _
  unfold cut
  simp only [cond_true, Nat.zero_add, List.length_append, List.drop_zero]
  rw [Nat.ble_eq_true_of_le (by omega), cond_true, List.take_append, List.take_of_length_le (by omega), h1, Nat.sub_self, List.take_zero, List.append_nil]
theorem bdC_snoc (l : List BodyT) (j : Nat) (b : BodyT) (h : l[j]? = some b) : bdC (l.take j) ++ b.cells = bdC (l.take (j + 1)) := by
  rw [List.take_add_one, h, Option.toList_some, bdC_app, bdC_one]
theorem bd_bx (b : BodyT) : b.cells = bx b.t b.n b.c b.e [.int .i64 b.u, .int .i64 b.v, .slice .frozen b.l.length (bs b.l)] := rfl
theorem bx_fzs (t n c : Int) (e : List UInt8) (tl : List D) : D.fzs (bx t n c e tl) = bx t n c e (D.fzs tl) := by
  show .int .i64 t :: .int .i64 n :: .int .i64 c :: D.fzs (bs e ++ tl) = _
  rw [bs_frz]; rfl
set_option maxHeartbeats 8000000 in
theorem gbody_ok (b : BodyT) (h : b.e.length = 32) (hl : b.l.length ≤ 10000) : Pur Try.prog 51 [.agg b.cells] (.agg b.cells) := by
  have hcl : D.cl (.agg b.cells) = true := bd_cls b
  have hld := bd_at h 2 _ rfl
  have hlen := bd_len h
  have hlay : ∀ (d : D) (cs : List D), cs.length = 38 → splice 0 (bx b.t b.n b.c b.e [.int .i64 b.u, .int .i64 b.v, d]) cs = some (bx b.t b.n b.c b.e [.int .i64 b.u, .int .i64 b.v, d]) := fun d cs hc => bx_lay h _ rfl cs hc
  have hall : ∀ (d : D) ze, cut ⟨true, 38, ze⟩ 0 (bx b.t b.n b.c b.e [.int .i64 b.u, .int .i64 b.v, d]) = some (.agg (bx b.t b.n b.c b.e [.int .i64 b.u, .int .i64 b.v, d])) := fun d ze => bx_all h _ rfl ze
  have hput : ∀ d : D, splice 37 [d] b.cells = some (bx b.t b.n b.c b.e [.int .i64 b.u, .int .i64 b.v, d]) := fun d => by
    rw [bd_bx]
    exact bx_put h _ _ _ d 2 _ (.inr (.inr ⟨rfl, rfl⟩)) 37 rfl
  have hxl : ∀ d : D, (D.agg (bx b.t b.n b.c b.e [.int .i64 b.u, .int .i64 b.v, d])).cells.length = 38 := fun d => bx_len h _ rfl
  have hbl : b.l.length * 1 = (bs b.l).length := by rw [bs_len]; omega
  have hfz : D.fzs (bx b.t b.n b.c b.e [.int .i64 b.u, .int .i64 b.v, .slice (.own 3) b.l.length (bs b.l)]) = b.cells := by rw [bx_fzs]; rfl
  have hsm : 0 + b.l.length ≤ 16777216 := by omega
  refine pur_intro Try.func51 rfl Try.ntmps51 rfl (by first | rfl | assumption | exact bs_cl _) fun B => ?_
  repeat (first | with_reducible (first | refine W_seq ?_ | refine q_then ?_ | refine W_ret ?_) | (with_reducible refine R_nil ?_; try dsimp only [slots0, slots_ud, cells_U, agg_ud, drop0, dropS, takeS, take0, ud_nil, take_ud, take_ud0, drop_ud, drop_ud0, take_udk, D.cells, D.fz, D.fzs, List.take_succ_cons, List.take_zero, List.drop_succ_cons, List.drop_zero, List.cons_append, List.nil_append, List.append_eq, List.length_cons, List.length_nil, Nat.reduceAdd, Nat.reduceMul, Nat.reduceSub, Int.reduceAdd, Int.reduceSub, Int.reduceToNat, Int.reduceNeg, Int.reduceMul]) | refine W_plain rfl ?_ | refine and_chk (by kernel_rfl) ?_ | refine k_load rfl rfl rfl (by exact hld _ _ rfl) ?_ | (refine k_append rfl rfl rfl ?_ rfl hbl rfl hsm rfl (Nat.zero_add _) (List.nil_append _) ?_; (rfl)) | refine k_store rfl rfl rfl rfl rfl rfl (hput _) ?_ | refine k_load rfl rfl rfl (hall _ _) ?_ | refine k_store rfl rfl rfl rfl (hxl _) rfl (by exact hlay _ _ rfl) ?_ | refine k_load rfl rfl rfl rfl ?_ | refine k_alloc rfl ?_ | refine k_box rfl rfl rfl ?_ | refine k_store rfl rfl rfl rfl rfl rfl rfl ?_ | refine k_fieldAddr rfl rfl rfl ?_ | (refine k_append rfl rfl rfl ?_ ?_ ?_ rfl ?_ rfl rfl rfl ?_; (first | rfl | exact trivial | (show 0 < _; omega)); (first | rfl | (simp <;> omega)); (first | rfl | (simp <;> omega)); (omega)) | refine k_buildSlice (cs := []) rfl rfl rfl rfl rfl rfl rfl ?_ | refine k_buildSlice rfl rfl rfl rfl rfl rfl rfl ?_)
  (first | with_reducible refine q_endr ?_); refine rets1 Try.results51 (RetV.cell _ _ _ _ _ _ _ _ inferInstance rfl rfl (by exact hall _ _)) ?_
  show D.agg (D.fzs _) = _
  rw [hfz]
theorem one_fill (b : BodyT) (h : b.e.length = 32) : dfill (bpl 1 38) (zeros 1 (bx 0 0 0 (List.replicate 32 0) [.int .i64 0, .int .i64 0, .slice .nil 0 []])) [(0, .agg b.cells)] = some b.cells := by
  have hz : (zeros 1 (bx 0 0 0 (List.replicate 32 0) [.int .i64 0, .int .i64 0, .slice .nil 0 []])).length = 38 := rfl
  have hp := bd_put h _ hz
  have hl := bd_len h
  generalize b.cells = bc at *
  generalize zeros 1 (bx 0 0 0 (List.replicate 32 0) [.int .i64 0, .int .i64 0, .slice .nil 0 []]) = zz at *
  show cond (Nat.beq bc.length 38 && true) (match splice 0 bc zz with | some cs' => some cs' | none => none) none = some bc
  rw [hl, hp]; rfl
def BodyT.id (b : BodyT) : Nat := b.c * 256 + b.u
theorem Id_ok (b : BodyT) (h : b.ok) : Pur Try.prog 26 [.agg b.cells] (.int .i64 (b.id : Int)) := by
  have hu := bd_at h.e 0 _ rfl
  have hc : ∀ ze, cut ⟨false, 1, ze⟩ 2 b.cells = some (.int .i64 (b.c : Int)) := fun _ => rfl
  have h1 := h.c
  have h2 := h.u
  have hm : IntKind.i64.wrap ((b.c : Int) * 256) = ((b.c * 256 : Nat) : Int) := by rw [i64_in _ (by omega)]; omega
  have ha : IntKind.i64.wrap (((b.c * 256 : Nat) : Int) + (b.u : Int)) = (b.id : Int) := by rw [i64_in _ (by omega)]; unfold BodyT.id; omega
  generalize b.c * 256 = x at *
  generalize b.id = y at *
  refine pur_intro Try.func26 rfl Try.ntmps26 rfl (by first | rfl | assumption | exact bs_cl _) fun B => ?_
  repeat (first | with_reducible (first | refine W_seq ?_ | refine q_then ?_ | refine W_ret ?_) | (with_reducible refine R_nil ?_; try dsimp only [slots0, slots_ud, cells_U, agg_ud, drop0, dropS, takeS, take0, ud_nil, take_ud, take_ud0, drop_ud, drop_ud0, take_udk, D.cells, D.fz, D.fzs, List.take_succ_cons, List.take_zero, List.drop_succ_cons, List.drop_zero, List.cons_append, List.nil_append, List.append_eq, List.length_cons, List.length_nil, Nat.reduceAdd, Nat.reduceMul, Nat.reduceSub, Int.reduceAdd, Int.reduceSub, Int.reduceToNat, Int.reduceNeg, Int.reduceMul]) | refine W_plain rfl ?_ | refine and_chk (by kernel_rfl) ?_ | refine k_load rfl rfl rfl (by exact hu _ _ rfl) ?_ | refine k_load rfl rfl rfl (hc _) ?_ | refine k_mul rfl rfl rfl hm ?_ | refine k_add rfl rfl rfl ha ?_ | refine k_assign rfl rfl ?_ | refine k_load rfl rfl rfl rfl ?_ | refine k_box rfl rfl rfl ?_ | refine k_fieldAddr rfl rfl rfl ?_ | (refine k_append rfl rfl rfl ?_ ?_ ?_ rfl ?_ rfl rfl rfl ?_; (first | rfl | exact trivial | (show 0 < _; omega)); (first | rfl | (simp <;> omega)); (first | rfl | (simp <;> omega)); (omega)))
  (first | with_reducible refine q_endr ?_); refine rets1 Try.results26 (by first | exact RetV.tmp _ _ rfl | exact RetV.cell _ _ _ _ _ _ _ _ inferInstance rfl rfl rfl) ?_
  rfl
set_option maxHeartbeats 8000000 in
theorem bodies_fn (l : List BodyT) (h : Em l) (hl : ∀ b ∈ l, b.l.length ≤ 10000) (n : Nat) (hn : l.length = n) (hn9 : n ≤ 10000) : Fn Try.prog 41 0 [.slice .frozen n (bdC l)] [] (.slice (.own 0) n (bdC l)) [(0, some (.tok 52 38))] := by
  have hcut := bdC_cut l h
  have hsn := bdC_snoc l
  have hlen := bdC_len l h
  have hlt' := fun j => bdC_len (l.take j) (h.take j)
  rw [hn] at hlen
  have hzl : n * 38 = (bdC l).length := hlen.symm
  have htk : l.take n = l := List.take_of_length_le (by omega)
  obtain ⟨Z, hZ⟩ : ∃ Z, bdC l = Z := ⟨_, rfl⟩
  rw [hZ] at hcut hzl ⊢
  refine fn_intro Try.func41 rfl Try.ntmps41 rfl fun B => ?_
  repeat (first | with_reducible (first | refine W_seq ?_ | refine q_then ?_ | refine q_thenx ?_ | refine W_block ?_ | refine q_block ?_ | refine q_blockx ?_ | refine W_ret ?_ | refine W_skip ?_ | refine W_exit ?_) | (with_reducible refine R_nil ?_; try dsimp only [slots0, slots_ud, cells_U, agg_ud, drop0, dropS, takeS, take0, ud_nil, take_ud, take_ud0, drop_ud, drop_ud0, take_udk, D.cells, D.fz, D.fzs, List.take_succ_cons, List.take_zero, List.drop_succ_cons, List.drop_zero, List.cons_append, List.nil_append, List.append_eq, List.length_cons, List.length_nil, Nat.reduceAdd, Nat.reduceMul, Nat.reduceSub, Int.reduceAdd, Int.reduceSub, Int.reduceToNat, Int.reduceNeg, Int.reduceMul]) | refine W_plain rfl ?_ | refine and_chk (by kernel_rfl) ?_ | refine k_move rfl rfl ?_ | refine k_assign rfl rfl ?_ | refine k_load rfl rfl rfl rfl ?_ | refine k_alloc rfl ?_ | refine k_store rfl rfl rfl rfl rfl rfl rfl ?_ | (refine k_append rfl rfl rfl ?_ ?_ ?_ rfl ?_ rfl rfl rfl ?_; (first | rfl | exact trivial | (show 0 < _; omega)); (first | rfl | (simp <;> omega)); (first | rfl | (simp <;> omega)); (omega)) | refine k_buildSlice (cs := []) rfl rfl rfl rfl rfl rfl rfl ?_ | refine k_buildSlice rfl rfl rfl rfl rfl rfl rfl ?_ | (refine k_indexAddrs rfl rfl rfl ⟨?_, ?_⟩ rfl ?_; (omega); (omega)) | refine k_loade rfl rfl rfl ?_ | refine k_len rfl rfl ?_ | (refine k_addi rfl rfl rfl ?_ ?_; (omega)) | (refine k_lssT rfl rfl rfl ?_ ?_; (omega)) | (refine k_lssF rfl rfl rfl ?_ ?_; (omega)) | refine W_yes rfl ?_ | refine W_no rfl ?_)
  refine W_of_weak (weak_tok 52 38) ?_
  refine W_loopW (fun n' ρ m nx => ∃ (j : Nat) (z : List D), j ≤ n ∧ z = bdC (l.take j) ∧ n' = n - j ∧ ρ = [(8, .int .i64 (j : Int)), (7, .int .i64 (n : Int)), (6, .slice .frozen n Z), (3, .slice (.own 0) j z)] ∧ m = [(0, some (.tok 52 38))] ∧ nx = 1)
    ⟨_, _, _, _, (weak_ren (fun l => l) (by repeat (first | exact trivial | refine ⟨⟨_, rfl, (by first | exact Up.refl _ | exact Up.fz _ _ _ | exact Up.nil _ | exact Up.nrs _ | assumption), rfl⟩, ?_⟩)) (by repeat (first | exact trivial | refine ⟨⟨rfl, _, rfl, (by first | exact Ups.refl _ | assumption | ((repeat refine Ups.cons (by first | exact Up.refl _ | exact Up.nil _ | exact Up.fz _ _ _) ?_); exact Ups.nil)), rfl⟩, ?_⟩ | refine ⟨⟨rfl, rfl⟩, ?_⟩ | refine ⟨⟨rfl, _, rfl, cls_ups _ _ (by assumption), cls_lalls _ _ (by assumption)⟩, ?_⟩)) (by first | decide | simp) (by first | decide | omega) (fun l h => idB_id (f := fun l => l) rfl l h)), 0, [], Nat.zero_le _, rfl, rfl, rfl, rfl, rfl⟩ ?_
  rintro n' ρ m nx ⟨j, z, hj, hz, rfl, rfl, rfl, rfl⟩
  by_cases hlt : j < n
  · obtain ⟨b, hb⟩ : ∃ b, l[j]? = some b := ⟨_, List.getElem?_eq_getElem (by omega)⟩
    have he := h b (List.mem_of_getElem? hb)
    have hc := hcut j b hb
    have hbo := gbody_ok b he (hl b (List.mem_of_getElem? hb))
    have hzq : j * 38 = z.length := by rw [hz, hlt' j, List.length_take, hn, Nat.min_eq_left hj]
    have hnx : z ++ b.cells = bdC (l.take (j + 1)) := by rw [hz]; exact hsn j b hb
    have hbl := bd_len he
    have hball := bd_all he
    have hbput := bd_put he
    have hbc := bd_cls b
    have hbcl := bd_cl b
    have hbfz := bd_fz b
    have hbfz1 : D.fzs b.cells = b.cells := by have := hbfz; simpa [D.fzs, D.fz] using this
    have hbc1 : (D.agg b.cells).cl = true := hbc
    have hb38 : (D.agg b.cells).cells.length = 38 := hbl
    have h1c : 1 * 38 = b.cells.length := by omega
    have hbs := one_fill b he
    have hsm : j + 1 ≤ 16777216 := by omega
    generalize hyy : bdC (l.take (j + 1)) = z2 at *
    generalize b.cells = bc at *
    repeat (first | with_reducible (first | refine W_seq ?_ | refine q_then ?_ | refine q_thenx ?_ | refine W_block ?_ | refine q_block ?_ | refine q_blockx ?_ | refine W_ret ?_ | refine W_skip ?_ | refine W_exit ?_) | (with_reducible refine R_nil ?_; try dsimp only [slots0, slots_ud, cells_U, agg_ud, drop0, dropS, takeS, take0, ud_nil, take_ud, take_ud0, drop_ud, drop_ud0, take_udk, D.cells, D.fz, D.fzs, List.take_succ_cons, List.take_zero, List.drop_succ_cons, List.drop_zero, List.cons_append, List.nil_append, List.append_eq, List.length_cons, List.length_nil, Nat.reduceAdd, Nat.reduceMul, Nat.reduceSub, Int.reduceAdd, Int.reduceSub, Int.reduceToNat, Int.reduceNeg, Int.reduceMul]) | refine W_plain rfl ?_ | refine and_chk (by kernel_rfl) ?_ | (refine k_indexAddrs rfl rfl rfl ⟨?_, ?_⟩ hzl ?_; (omega); (omega)) | refine k_loade rfl rfl (hc _) ?_ | refine k_store rfl rfl rfl rfl (by exact hb38) rfl (by exact hbput _ rfl) ?_ | refine k_load rfl rfl rfl (hball _) ?_ | refine k_buildSlice rfl rfl hbs hbfz1 hbc rfl rfl ?_ | (refine k_append rfl rfl rfl ?_ hzq h1c rfl hsm rfl rfl (by exact hnx) ?_; (rfl)) | refine k_move rfl rfl ?_ | refine k_assign rfl rfl ?_ | refine k_load rfl rfl rfl rfl ?_ | refine k_alloc rfl ?_ | refine k_store rfl rfl rfl rfl rfl rfl rfl ?_ | refine k_call rfl hbo rfl hbfz hbcl hbc1 ?_ | (refine k_append rfl rfl rfl ?_ ?_ ?_ rfl ?_ rfl rfl rfl ?_; (first | rfl | exact trivial | (show 0 < _; omega)); (first | rfl | (simp <;> omega)); (first | rfl | (simp <;> omega)); (omega)) | refine k_buildSlice (cs := []) rfl rfl rfl rfl rfl rfl rfl ?_ | refine k_buildSlice rfl rfl rfl rfl rfl rfl rfl ?_ | (refine k_indexAddrs rfl rfl rfl ⟨?_, ?_⟩ rfl ?_; (omega); (omega)) | refine k_loade rfl rfl rfl ?_ | refine k_len rfl rfl ?_ | (refine k_addi rfl rfl rfl ?_ ?_; (omega)) | (refine k_lssT rfl rfl rfl ?_ ?_; (omega)) | (refine k_lssF rfl rfl rfl ?_ ?_; (omega)) | refine W_yes rfl ?_ | refine W_no rfl ?_)
    subst hyy
    exact ⟨n - (j + 1), _, _, _, (weak_ren (fun l => if l = 0 then 3 else l) (by repeat (first | exact trivial | refine ⟨⟨_, rfl, (by first | exact Up.refl _ | exact Up.fz _ _ _ | exact Up.nil _ | exact Up.nrs _ | assumption), rfl⟩, ?_⟩)) (by repeat (first | exact trivial | refine ⟨⟨rfl, _, rfl, (by first | exact Ups.refl _ | assumption | ((repeat refine Ups.cons (by first | exact Up.refl _ | exact Up.nil _ | exact Up.fz _ _ _) ?_); exact Ups.nil)), rfl⟩, ?_⟩ | refine ⟨⟨rfl, rfl⟩, ?_⟩ | refine ⟨⟨rfl, _, rfl, cls_ups _ _ (by assumption), cls_lalls _ _ (by assumption)⟩, ?_⟩)) (by first | decide | simp) (by first | decide | omega) (fun l h => idB_id (f := fun l => if l = 0 then 3 else l) rfl l h)), by omega, j + 1, _, by omega, rfl, rfl, rfl, rfl, rfl⟩
  · have ej : j = n := by omega
    subst ej
    rw [htk, hZ] at hz
    subst hz
    repeat (first | with_reducible (first | refine W_seq ?_ | refine q_then ?_ | refine q_thenx ?_ | refine W_block ?_ | refine q_block ?_ | refine q_blockx ?_ | refine W_ret ?_ | refine W_skip ?_ | refine W_exit ?_) | (with_reducible refine R_nil ?_; try dsimp only [slots0, slots_ud, cells_U, agg_ud, drop0, dropS, takeS, take0, ud_nil, take_ud, take_ud0, drop_ud, drop_ud0, take_udk, D.cells, D.fz, D.fzs, List.take_succ_cons, List.take_zero, List.drop_succ_cons, List.drop_zero, List.cons_append, List.nil_append, List.append_eq, List.length_cons, List.length_nil, Nat.reduceAdd, Nat.reduceMul, Nat.reduceSub, Int.reduceAdd, Int.reduceSub, Int.reduceToNat, Int.reduceNeg, Int.reduceMul]) | refine W_plain rfl ?_ | refine and_chk (by kernel_rfl) ?_ | refine k_move rfl rfl ?_ | refine k_assign rfl rfl ?_ | refine k_load rfl rfl rfl rfl ?_ | refine k_alloc rfl ?_ | refine k_store rfl rfl rfl rfl rfl rfl rfl ?_ | (refine k_append rfl rfl rfl ?_ ?_ ?_ rfl ?_ rfl rfl rfl ?_; (first | rfl | exact trivial | (show 0 < _; omega)); (first | rfl | (simp <;> omega)); (first | rfl | (simp <;> omega)); (omega)) | refine k_buildSlice (cs := []) rfl rfl rfl rfl rfl rfl rfl ?_ | refine k_buildSlice rfl rfl rfl rfl rfl rfl rfl ?_ | (refine k_indexAddrs rfl rfl rfl ⟨?_, ?_⟩ rfl ?_; (omega); (omega)) | refine k_loade rfl rfl rfl ?_ | refine k_len rfl rfl ?_ | (refine k_addi rfl rfl rfl ?_ ?_; (omega)) | (refine k_lssT rfl rfl rfl ?_ ?_; (omega)) | (refine k_lssF rfl rfl rfl ?_ ?_; (omega)) | refine W_yes rfl ?_ | refine W_no rfl ?_)
    first | exact (q_endf (fun l => l) 1 (RetsF.r1 (by first | exact RetV.tmp _ _ rfl | exact RetV.cell _ _ _ _ _ _ _ _ inferInstance rfl rfl rfl) (by first | exact Up.refl _ | exact Up.fz _ _ _ | exact Up.nil _)) rfl (by repeat (first | exact trivial | refine ⟨⟨rfl, _, rfl, Ups.refl _, rfl⟩, ?_⟩ | refine ⟨⟨rfl, rfl⟩, ?_⟩)) rfl rfl rfl).2 | exact (q_endf (fun l => l) 1 (RetsF.r1 (by first | exact RetV.tmp _ _ rfl | exact RetV.cell _ _ _ _ _ _ _ _ inferInstance rfl rfl rfl) (by first | exact Up.refl _ | exact Up.fz _ _ _ | exact Up.nil _)) rfl (by repeat (first | exact trivial | refine ⟨⟨rfl, _, rfl, Ups.refl _, rfl⟩, ?_⟩ | refine ⟨⟨rfl, rfl⟩, ?_⟩)) rfl rfl rfl).1
end Go.Proofs.Ytcfefmbbbfdppaa
