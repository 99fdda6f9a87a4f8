/- A message's cells, the last three by themselves. Conditions: as said. -/
import Derived.Test.YtcfefmbbbfdppaaSGd
import Derived.Test.YtcfefmbbbfdppaaSDMore
import Derived.Test.YtcfefmbbbfdppaaSDSl
import Derived.Test.YtcfefmbbbfdppaaSDPart
import Derived.Test.YtcfefmbbbfdppaaSDApp
import Derived.Test.YtcfefmbbbfdppaaSGb
import Derived.Test.YtcfefmbbbfdppaaSGg
import Derived.Test.YtcfefmbbbfdppaaSDFix
import Derived.Test.YtcfefmbbbfdppaaSDMs
namespace Go.Proofs.Ytcfefmbbbfdppaa
open Go.RowKit Go.Lib Go.IntWalk
set_option linter.unusedVariables false
set_option maxRecDepth 100000
theorem shr_nat (n i : Nat) (hi : 8 * i ≤ 63) : ((n : Int)).fdiv (2 ^ (min ((8 * i : Nat) : Int).toNat IntKind.i64.bits)) = ((n / 256 ^ i : Nat) : Int) := by
  rw [Int.toNat_natCast, show min (8 * i) IntKind.i64.bits = 8 * i from Nat.min_eq_left (by show 8 * i ≤ 64; omega)]
  rw [Int.fdiv_eq_ediv_of_nonneg _ (by exact_mod_cast Nat.zero_le _)]
  rw [show (256 : Nat) ^ i = 2 ^ (8 * i) from by rw [Nat.pow_mul]]
  push_cast
  rfl
theorem toB_snoc (k n j : Nat) (h : j < k) : (toB k n).take j ++ [UInt8.ofNat (n / 256 ^ (k - 1 - j))] = (toB k n).take (j + 1) := by
  have h1 := toB_get k n j h
  rw [List.take_add_one, h1]; rfl
theorem conv_byte (n i : Nat) : IntKind.u8.wrap ((n / 256 ^ i : Nat) : Int) = ((UInt8.ofNat (n / 256 ^ i)).toNat : Int) := by
  rw [IntKind.wrap_u8, UInt8.toNat_ofNat']; omega
def penM (t : Nat) (L : Nat) (z : List D) : Mem := [(0, some (.var 138 [.slice (.own t) L z])), (t, some (.tok 5 1))]
set_option maxHeartbeats 4000000 in
theorem number_ok (l : List UInt8) (L : Nat) (hL : l.length = L) (n sz L2 : Nat) (h0 : 0 < sz) (hs : sz ≤ 8) (hn : n < 9223372036854775808) (hsm : L ≤ 10000000) (hL2 : L + sz = L2) (z z2 : List D) (hz : bs l = z) (hz2 : bs (l ++ toB sz n) = z2) :
    Fn Try.prog 66 2 [.ptr 0 0, .int .i64 n, .int .i64 sz] (penM 1 L z) (.tup []) (penM 2 L2 z2) := by
  unfold penM
  refine fn_intro Try.func66 rfl Try.ntmps66 rfl fun B => ?_
  repeat (first | with_reducible (first | refine W_seq ?_ | refine q_then ?_ | refine q_thenx ?_ | refine W_block ?_ | refine q_block ?_ | refine q_blockx ?_ | refine W_skip ?_ | refine W_exit ?_) | (with_reducible refine R_nil ?_; try dsimp only [slots0, slots_ud, cells_U, agg_ud, drop0, dropS, takeS, take0, ud_nil, take_ud, take_ud0, drop_ud, drop_ud0, take_udk, D.cells, D.fz, D.fzs, List.take_succ_cons, List.take_zero, List.drop_succ_cons, List.drop_zero, List.cons_append, List.nil_append, List.append_eq, List.length_cons, List.length_nil, Nat.reduceAdd, Nat.reduceMul, Nat.reduceSub, Int.reduceAdd, Int.reduceSub, Int.reduceToNat, Int.reduceNeg, Int.reduceMul]) | refine W_plain rfl ?_ | refine W_drawn mixed rfl ?_ | refine and_chk (by kernel_rfl) ?_ | refine k_move rfl rfl ?_ | refine k_assign rfl rfl ?_ | refine k_load rfl rfl rfl rfl ?_ | refine k_store rfl rfl rfl rfl rfl rfl rfl ?_ | refine k_fieldAddr rfl rfl rfl ?_ | (refine k_append rfl rfl rfl ?_ ?_ ?_ rfl ?_ rfl rfl rfl ?_; (first | rfl | exact trivial | (show 0 < _; omega)); (first | rfl | (simp <;> omega)); (first | rfl | (simp <;> omega)); (omega)) | refine k_buildSlice (cs := []) rfl rfl rfl rfl rfl rfl rfl ?_ | refine k_buildSlice rfl rfl rfl rfl rfl rfl rfl ?_ | refine k_nilCheck rfl rfl rfl ?_ | (refine k_subi rfl rfl rfl ?_ ?_; (omega)) | (refine k_geqT rfl rfl rfl ?_ ?_; (omega)) | (refine k_geqF rfl rfl rfl ?_ ?_; (omega)) | refine W_yes rfl ?_ | refine W_no rfl ?_)
  refine W_loopW (fun n' ρ m nx => ∃ (j q : Nat) (x : List D) (e : Int), j ≤ sz ∧ e = (sz : Int) - 1 - j ∧ q = L + j ∧ x = bs (l ++ (toB sz n).take j) ∧ n' = sz - j ∧ ρ = [(6, .int .i64 e), (0, .ptr 0 0), (1, .int .i64 n)] ∧ m = [(0, some (.var 138 [.slice (.own 2) q x])), (2, some (.tok 5 1))] ∧ nx = 3)
    ⟨_, _, _, _, (weak_ren (fun l => if l = 2 then 1 else l) (by repeat (first | exact trivial | refine ⟨⟨_, rfl, (by first | exact Up.refl _ | exact Up.fz _ _ _ | exact Up.nil _ | exact Up.nrs _ | assumption), rfl⟩, ?_⟩)) (by repeat (first | exact trivial | refine ⟨⟨rfl, _, rfl, (by first | exact Ups.refl _ | assumption | ((repeat refine Ups.cons (by first | exact Up.refl _ | exact Up.nil _ | exact Up.fz _ _ _) ?_); exact Ups.nil)), rfl⟩, ?_⟩ | refine ⟨⟨rfl, rfl⟩, ?_⟩ | refine ⟨⟨rfl, _, rfl, cls_ups _ _ (by assumption), cls_lalls _ _ (by assumption)⟩, ?_⟩)) (by first | decide | simp) (by first | decide | omega) (fun l h => idB_id (f := fun l => if l = 2 then 1 else l) rfl l h)), 0, L, z, (sz : Int) - 1, Nat.zero_le _, by simp, rfl, by simp [hz], rfl, rfl, rfl, rfl⟩ ?_
  rintro n' ρ m nx ⟨j, q, x, e, hj, he, hq, hx, rfl, rfl, rfl, rfl⟩
  by_cases hlt : j < sz
  · have e1 : IntKind.i64.wrap (8 * e) = ((8 * (sz - 1 - j) : Nat) : Int) := by rw [i64_in _ (by omega)]; omega
    have e2 := shr_nat n (sz - 1 - j) (by omega)
    have e3 := conv_byte n (sz - 1 - j)
    have hxl : q * 1 = x.length := by rw [hx, bs_len, List.length_append, List.length_take, toB_len]; omega
    have hx2 : x ++ [D.int .u8 ((UInt8.ofNat (n / 256 ^ (sz - 1 - j))).toNat : Int)] = bs (l ++ (toB sz n).take (j + 1)) := by
      rw [hx, ← toB_snoc sz n j hlt, ← List.append_assoc]; unfold bs; rw [List.map_append (l₁ := l ++ _)]; rfl
    generalize (UInt8.ofNat (n / 256 ^ (sz - 1 - j))).toNat = c at *
    generalize n / 256 ^ (sz - 1 - j) = v at *
    repeat (first | with_reducible (first | refine W_seq ?_ | refine q_then ?_ | refine q_thenx ?_ | refine W_block ?_ | refine q_block ?_ | refine q_blockx ?_ | refine W_skip ?_ | refine W_exit ?_) | (with_reducible refine R_nil ?_; try dsimp only [slots0, slots_ud, cells_U, agg_ud, drop0, dropS, takeS, take0, ud_nil, take_ud, take_ud0, drop_ud, drop_ud0, take_udk, D.cells, D.fz, D.fzs, List.take_succ_cons, List.take_zero, List.drop_succ_cons, List.drop_zero, List.cons_append, List.nil_append, List.append_eq, List.length_cons, List.length_nil, Nat.reduceAdd, Nat.reduceMul, Nat.reduceSub, Int.reduceAdd, Int.reduceSub, Int.reduceToNat, Int.reduceNeg, Int.reduceMul]) | refine W_plain rfl ?_ | refine W_drawn mixed rfl ?_ | refine and_chk (by kernel_rfl) ?_ | refine k_buildSlice (cs := [.int .u8 (c : Int)]) rfl rfl rfl rfl rfl rfl rfl ?_ | (refine k_append rfl rfl rfl ?_ hxl rfl rfl ?_ rfl rfl hx2 ?_; (rfl); (omega)) | refine k_move rfl rfl ?_ | refine k_assign rfl rfl ?_ | refine k_load rfl rfl rfl rfl ?_ | refine k_store rfl rfl rfl rfl rfl rfl rfl ?_ | refine k_fieldAddr rfl rfl rfl ?_ | refine k_mul rfl rfl rfl e1 ?_ | (refine k_shr rfl rfl rfl ?_ e2 ?_; (omega)) | refine k_conv rfl rfl e3 ?_ | (refine k_append rfl rfl rfl ?_ ?_ ?_ rfl ?_ rfl rfl rfl ?_; (first | rfl | exact trivial | (show 0 < _; omega)); (first | rfl | (simp <;> omega)); (first | rfl | (simp <;> omega)); (omega)) | refine k_buildSlice (cs := []) rfl rfl rfl rfl rfl rfl rfl ?_ | refine k_buildSlice rfl rfl rfl rfl rfl rfl rfl ?_ | refine k_nilCheck rfl rfl rfl ?_ | (refine k_subi rfl rfl rfl ?_ ?_; (omega)) | (refine k_geqT rfl rfl rfl ?_ ?_; (omega)) | (refine k_geqF rfl rfl rfl ?_ ?_; (omega)) | refine W_yes rfl ?_ | refine W_no rfl ?_)
    exact ⟨sz - (j + 1), _, _, _, (weak_ren (fun l => if l = 2 then 4 else l) (by repeat (first | exact trivial | refine ⟨⟨_, rfl, (by first | exact Up.refl _ | exact Up.fz _ _ _ | exact Up.nil _ | exact Up.nrs _ | assumption), rfl⟩, ?_⟩)) (by repeat (first | exact trivial | refine ⟨⟨rfl, _, rfl, (by first | exact Ups.refl _ | assumption | ((repeat refine Ups.cons (by first | exact Up.refl _ | exact Up.nil _ | exact Up.fz _ _ _) ?_); exact Ups.nil)), rfl⟩, ?_⟩ | refine ⟨⟨rfl, rfl⟩, ?_⟩ | refine ⟨⟨rfl, _, rfl, cls_ups _ _ (by assumption), cls_lalls _ _ (by assumption)⟩, ?_⟩)) (by first | decide | simp) (by first | decide | omega) (fun l h => idB_id (f := fun l => if l = 2 then 4 else l) rfl l h)), by omega, j + 1, q + 1, _, e - 1, by omega, by omega, by omega, rfl, rfl, rfl, rfl, rfl⟩
  · have ej : j = sz := by omega
    subst ej
    have hx' : x = z2 := by rw [hx, ← hz2, List.take_of_length_le (by rw [toB_len]; exact Nat.le_refl _)]
    have hq' : q = L2 := by omega
    subst hx' hq'
    repeat (first | with_reducible (first | refine W_seq ?_ | refine q_then ?_ | refine q_thenx ?_ | refine W_block ?_ | refine q_block ?_ | refine q_blockx ?_ | refine W_skip ?_ | refine W_exit ?_) | (with_reducible refine R_nil ?_; try dsimp only [slots0, slots_ud, cells_U, agg_ud, drop0, dropS, takeS, take0, ud_nil, take_ud, take_ud0, drop_ud, drop_ud0, take_udk, D.cells, D.fz, D.fzs, List.take_succ_cons, List.take_zero, List.drop_succ_cons, List.drop_zero, List.cons_append, List.nil_append, List.append_eq, List.length_cons, List.length_nil, Nat.reduceAdd, Nat.reduceMul, Nat.reduceSub, Int.reduceAdd, Int.reduceSub, Int.reduceToNat, Int.reduceNeg, Int.reduceMul]) | refine W_plain rfl ?_ | refine W_drawn mixed rfl ?_ | refine and_chk (by kernel_rfl) ?_ | refine k_move rfl rfl ?_ | refine k_assign rfl rfl ?_ | refine k_load rfl rfl rfl rfl ?_ | refine k_store rfl rfl rfl rfl rfl rfl rfl ?_ | refine k_fieldAddr rfl rfl rfl ?_ | (refine k_append rfl rfl rfl ?_ ?_ ?_ rfl ?_ rfl rfl rfl ?_; (first | rfl | exact trivial | (show 0 < _; omega)); (first | rfl | (simp <;> omega)); (first | rfl | (simp <;> omega)); (omega)) | refine k_buildSlice (cs := []) rfl rfl rfl rfl rfl rfl rfl ?_ | refine k_buildSlice rfl rfl rfl rfl rfl rfl rfl ?_ | refine k_nilCheck rfl rfl rfl ?_ | (refine k_subi rfl rfl rfl ?_ ?_; (omega)) | (refine k_geqT rfl rfl rfl ?_ ?_; (omega)) | (refine k_geqF rfl rfl rfl ?_ ?_; (omega)) | refine W_yes rfl ?_ | refine W_no rfl ?_)
    first | exact (q_endf (fun l => l) 3 (RetsF.r0 ) rfl (by repeat (first | exact trivial | refine ⟨⟨rfl, _, rfl, Ups.refl _, rfl⟩, ?_⟩ | refine ⟨⟨rfl, rfl⟩, ?_⟩)) rfl rfl rfl).2 | exact (q_endf (fun l => l) 3 (RetsF.r0 ) rfl (by repeat (first | exact trivial | refine ⟨⟨rfl, _, rfl, Ups.refl _, rfl⟩, ?_⟩ | refine ⟨⟨rfl, rfl⟩, ?_⟩)) rfl rfl rfl).1
theorem bytes_ok (l c : List UInt8) (L m : Nat) (hL : l.length = L) (hm : c.length = m) (hsm : L ≤ 8000000) (hsm2 : m ≤ 8000000) (L2 : Nat) (hL2 : L + m = L2) (z z2 : List D) (hz : bs l = z) (hz2 : bs (l ++ c) = z2) :
    Fn Try.prog 67 2 [.ptr 0 0, .slice .frozen m (bs c)] (penM 1 L z) (.tup []) (penM 2 L2 z2) := by
  unfold penM
  have hxl : L * 1 = z.length := by rw [← hz, bs_len, hL]; omega
  have hcl : m * 1 = (bs c).length := by rw [bs_len, hm]; omega
  have hcc : z ++ bs c = z2 := by rw [← hz, ← hz2]; unfold bs; rw [List.map_append]
  refine fn_intro Try.func67 rfl Try.ntmps67 rfl fun B => ?_
  repeat (first | with_reducible (first | fail) | (with_reducible refine R_nil ?_; try dsimp only [slots0, slots_ud, cells_U, agg_ud, drop0, dropS, takeS, take0, ud_nil, take_ud, take_ud0, drop_ud, drop_ud0, take_udk, D.cells, D.fz, D.fzs, List.take_succ_cons, List.take_zero, List.drop_succ_cons, List.drop_zero, List.cons_append, List.nil_append, List.append_eq, List.length_cons, List.length_nil, Nat.reduceAdd, Nat.reduceMul, Nat.reduceSub, Int.reduceAdd, Int.reduceSub, Int.reduceToNat, Int.reduceNeg, Int.reduceMul]) | refine W_plain rfl ?_ | refine and_chk (by kernel_rfl) ?_ | (refine k_append rfl rfl rfl ?_ hxl hcl rfl ?_ rfl hL2 hcc ?_; (rfl); (omega)) | refine k_move rfl rfl ?_ | refine k_load rfl rfl rfl rfl ?_ | refine k_store rfl rfl rfl rfl rfl rfl rfl ?_ | refine k_fieldAddr rfl rfl rfl ?_ | (refine k_append rfl rfl rfl ?_ ?_ ?_ rfl ?_ rfl rfl rfl ?_; (first | rfl | exact trivial | (show 0 < _; omega)); (first | rfl | (simp <;> omega)); (first | rfl | (simp <;> omega)); (omega)) | refine k_nilCheck rfl rfl rfl ?_)
  first | exact (q_endf (fun l => l) 3 (RetsF.r0 ) rfl (by repeat (first | exact trivial | refine ⟨⟨rfl, _, rfl, Ups.refl _, rfl⟩, ?_⟩ | refine ⟨⟨rfl, rfl⟩, ?_⟩)) rfl rfl rfl).2 | exact (q_endf (fun l => l) 3 (RetsF.r0 ) rfl (by repeat (first | exact trivial | refine ⟨⟨rfl, _, rfl, Ups.refl _, rfl⟩, ?_⟩ | refine ⟨⟨rfl, rfl⟩, ?_⟩)) rfl rfl rfl).1
end Go.Proofs.Ytcfefmbbbfdppaa
namespace Go.Proofs.Ytcfefmbbbfdppaa
open Go.RowKit Go.Lib Go.IntWalk
set_option linter.unusedVariables false
set_option maxRecDepth 100000
structure BodyT where
  t : Nat
  n : Nat
  c : Nat
  e : List UInt8
  u : Nat
  v : Nat
  l : List UInt8
structure BodyT.ok (b : BodyT) : Prop where
  t : b.t ≤ 1099511627776
  n : b.n ≤ 4294967295
  c : b.c ≤ 65535
  e : b.e.length = 32
  u : b.u ≤ 1099511627776
  v : b.v ≤ 255
  l : b.l.length ≤ 300
def BodyT.cells (b : BodyT) : List D := .int .i64 b.t :: .int .i64 b.n :: .int .i64 b.c :: (bs b.e ++ [.int .i64 b.u, .int .i64 b.v, .slice .frozen b.l.length (bs b.l)])
def BodyT.out (b : BodyT) : List UInt8 := toB 8 b.t ++ toB 4 b.n ++ toB 2 b.c ++ b.e ++ toB 8 b.u ++ toB 1 b.v ++ b.l
theorem BodyT.out_len (b : BodyT) (h : b.ok) : b.out.length = 55 + b.l.length := by
  unfold BodyT.out
  simp only [List.length_append, toB_len, h.e]
section
variable {b : BodyT} (h : b.e.length = 32)
include h
theorem bd_len : b.cells.length = 38 := by
  unfold BodyT.cells
  simp only [List.length_cons, List.length_append, bs_len, h, List.length_nil]
theorem bd_all (ze : List D) : cut ⟨true, 38, ze⟩ 0 b.cells = some (.agg b.cells) := by
  unfold cut
  simp only [cond_true, Nat.zero_add, List.drop_zero]
  rw [bd_len h, List.take_of_length_le (by rw [bd_len h]; exact Nat.le_refl _)]
  rfl
theorem bd_put (cs : List D) (hc : cs.length = 38) : splice 0 b.cells cs = some b.cells := by
  unfold splice
  rw [Nat.ble_eq_true_of_le (by rw [bd_len h, hc]; exact Nat.le_refl _), cond_true, Nat.zero_add, List.drop_of_length_le (by rw [bd_len h, hc]; exact Nat.le_refl _)]
  simp
theorem bd_at (i : Nat) (d : D) (hd : [D.int .i64 b.u, .int .i64 b.v, .slice .frozen b.l.length (bs b.l)][i]? = some d) (ze : List D) (j : Nat) (hj : j = 35 + i) : cut ⟨false, 1, ze⟩ j b.cells = some d := by
  subst hj
  unfold cut BodyT.cells
  simp only [cond_false]
  rw [show 35 + i = 32 + i + 1 + 1 + 1 from by omega, List.getElem?_cons_succ, List.getElem?_cons_succ, List.getElem?_cons_succ, List.getElem?_append_right (by rw [bs_len, h]; omega), bs_len, h, Nat.add_sub_cancel_left]
  exact hd
theorem bd_dat (i : Nat) (d : D) (hd : [D.int .i64 b.u, .int .i64 b.v, .slice .frozen b.l.length (bs b.l)][i]? = some d) (ze : List D) (j : Nat) (hj : j = 35 + i) : cut ⟨false, 1, ze⟩ 0 (b.cells.drop j) = some d := by
  have := bd_at h i d hd ze j hj
  unfold cut at this ⊢
  simp only [cond_false, List.getElem?_drop, Nat.add_zero] at this ⊢
  exact this
omit h in
theorem bd_sl (h : b.e.length = 32) : ((b.cells.drop 3).drop ((0 : Int).toNat * 1)).take (32 * 1) = bs b.e := by
  unfold BodyT.cells
  rw [List.drop_succ_cons, List.drop_succ_cons, List.drop_succ_cons, List.drop_zero]
  show (List.drop 0 _).take 32 = _
  rw [List.drop_zero, List.take_append_of_le_length (by rw [bs_len, h]; exact Nat.le_refl _), List.take_of_length_le (by rw [bs_len, h]; exact Nat.le_refl _)]
end
theorem bs_frz (l : List UInt8) (r : List D) : D.fzs (bs l ++ r) = bs l ++ D.fzs r := by
  induction l with
  | nil => rfl
  | cons a l ih => show D.int .u8 _ :: D.fzs (bs l ++ r) = _; rw [ih]; rfl
theorem bs_cls_app (l : List UInt8) (r : List D) : D.cls (bs l ++ r) = D.cls r := by
  induction l with
  | nil => rfl
  | cons a l ih => show (true && D.cls (bs l ++ r)) = _; rw [ih]; rfl
theorem bd_fz (b : BodyT) : D.fzs [D.agg b.cells] = [D.agg b.cells] := by
  show [D.agg (_ :: _ :: _ :: D.fzs (bs b.e ++ _))] = _
  rw [bs_frz]; rfl
theorem bd_cls (b : BodyT) : D.cls b.cells = true := by
  show (true && (true && (true && D.cls (bs b.e ++ _)))) = true
  rw [bs_cls_app]; rfl
theorem bd_cl (b : BodyT) : D.cls [D.agg b.cells] = true := by
  show (D.cls b.cells && true) = true
  rw [bd_cls]; rfl
abbrev ff (a b : Nat) : Nat → Nat := fun l => cond (Nat.beq l 2) b (cond (Nat.beq l 1) a l)
theorem in_ok (n m : Int) (h0 : 0 ≤ n) (h1 : n ≤ m) : Pur Try.prog 65 [.int .i64 n, .int .i64 m] (.bool true) := by
  have e1 : decide (n ≥ 0) = true := by simp; omega
  have e2 : decide (n ≤ m) = true := by simp; omega
  refine pur_intro Try.func65 rfl Try.ntmps65 rfl (by first | rfl | assumption | exact bs_cl _) fun B => ?_
  repeat (first | with_reducible (first | refine W_seq ?_ | refine q_then ?_ | refine W_ret ?_) | (with_reducible refine R_nil ?_; try dsimp only [slots0, slots_ud, cells_U, agg_ud, drop0, dropS, takeS, take0, ud_nil, take_ud, take_ud0, drop_ud, drop_ud0, take_udk, D.cells, D.fz, D.fzs, List.take_succ_cons, List.take_zero, List.drop_succ_cons, List.drop_zero, List.cons_append, List.nil_append, List.append_eq, List.length_cons, List.length_nil, Nat.reduceAdd, Nat.reduceMul, Nat.reduceSub, Int.reduceAdd, Int.reduceSub, Int.reduceToNat, Int.reduceNeg, Int.reduceMul]) | refine W_plain rfl ?_ | refine and_chk (by kernel_rfl) ?_ | refine k_move rfl rfl ?_ | refine k_assign rfl rfl ?_ | refine k_geq rfl rfl rfl e1 ?_ | refine k_leq rfl rfl rfl e2 ?_ | refine k_pickT rfl rfl rfl ?_)
  (first | with_reducible refine q_endr ?_); refine rets1 Try.results65 (by first | exact RetV.tmp _ _ rfl | exact RetV.cell _ _ _ _ _ _ _ _ inferInstance rfl rfl rfl) ?_
  rfl
theorem bCheck_ok (b : BodyT) (h : b.ok) : Pur Try.prog 59 [.agg b.cells] (.int .i64 0) := by
  have i1 := in_ok b.t 1099511627776 (by omega) (by have := h.t; omega)
  have i2 := in_ok b.n 4294967295 (by omega) (by have := h.n; omega)
  have i3 := in_ok b.c 65535 (by omega) (by have := h.c; omega)
  have i4 := in_ok b.u 1099511627776 (by omega) (by have := h.u; omega)
  have i5 := in_ok b.v 255 (by omega) (by have := h.v; omega)
  have hl := h.l
  have hu := bd_at h.e 0 _ rfl
  have hv := bd_at h.e 1 _ rfl
  have hld := bd_at h.e 2 _ rfl
  have hcl : D.cl (.agg b.cells) = true := bd_cls b
  have hlen := bd_len h.e
  refine pur_intro Try.func59 rfl Try.ntmps59 rfl (by first | rfl | assumption | exact bs_cl _) fun B => ?_
  repeat (first | with_reducible (first | refine W_seq ?_ | refine q_then ?_ | refine W_ret ?_ | refine W_skip ?_) | (with_reducible refine R_nil ?_; try dsimp only [slots0, slots_ud, cells_U, agg_ud, drop0, dropS, takeS, take0, ud_nil, take_ud, take_ud0, drop_ud, drop_ud0, take_udk, D.cells, D.fz, D.fzs, List.take_succ_cons, List.take_zero, List.drop_succ_cons, List.drop_zero, List.cons_append, List.nil_append, List.append_eq, List.length_cons, List.length_nil, Nat.reduceAdd, Nat.reduceMul, Nat.reduceSub, Int.reduceAdd, Int.reduceSub, Int.reduceToNat, Int.reduceNeg, Int.reduceMul]) | refine W_plain rfl ?_ | refine and_chk (by kernel_rfl) ?_ | refine k_load rfl rfl rfl (by exact hu _ _ rfl) ?_ | refine k_load rfl rfl rfl (by exact hv _ _ rfl) ?_ | refine k_load rfl rfl rfl (by exact hld _ _ rfl) ?_ | refine k_move rfl rfl ?_ | refine k_assign rfl rfl ?_ | refine k_load rfl rfl rfl rfl ?_ | refine k_box rfl rfl rfl ?_ | refine k_fieldAddr rfl rfl rfl ?_ | refine k_callv rfl i1 rfl rfl rfl rfl rfl ?_ | refine k_callv rfl i2 rfl rfl rfl rfl rfl ?_ | refine k_callv rfl i3 rfl rfl rfl rfl rfl ?_ | refine k_callv rfl i4 rfl rfl rfl rfl rfl ?_ | refine k_callv rfl i5 rfl rfl rfl rfl rfl ?_ | refine k_len rfl rfl ?_ | refine k_pickF rfl rfl rfl ?_ | refine k_not rfl rfl rfl ?_ | (refine k_gtrF rfl rfl rfl ?_ ?_; (omega)) | refine W_no rfl ?_)
  (first | with_reducible refine q_endr ?_); refine rets1 Try.results59 (by first | exact RetV.tmp _ _ rfl | exact RetV.cell _ _ _ _ _ _ _ _ inferInstance rfl rfl rfl) ?_
  rfl
set_option maxHeartbeats 4000000 in
theorem body_ok (l : List UInt8) (L : Nat) (hL : l.length = L) (hsm : L ≤ 1000000) (b : BodyT) (h : b.ok) (L2 : Nat) (hL2 : L + (55 + b.l.length) = L2) (z z2 : List D) (hz : bs l = z) (hz2 : bs (l ++ b.out) = z2) :
    Fn Try.prog 63 2 [.ptr 0 0, .agg b.cells] (penM 1 L z) (.tup []) (penM 2 L2 z2) := by
  have c1 := number_ok l L hL b.t 8 (L + 8) (by decide) (by decide) (by have := h.t; omega) (by omega) rfl z _ hz rfl
  have c2 := number_ok (l ++ toB 8 b.t) (L + 8) (by simp [hL, toB_len]) b.n 4 (L + 8 + 4) (by decide) (by decide) (by have := h.n; omega) (by omega) rfl _ _ rfl rfl
  have c3 := number_ok (l ++ toB 8 b.t ++ toB 4 b.n) (L + 8 + 4) (by simp [hL, toB_len] <;> omega) b.c 2 (L + 8 + 4 + 2) (by decide) (by decide) (by have := h.c; omega) (by omega) rfl _ _ rfl rfl
  have c4 := bytes_ok (l ++ toB 8 b.t ++ toB 4 b.n ++ toB 2 b.c) b.e (L + 8 + 4 + 2) 32 (by simp [hL, toB_len] <;> omega) h.e (by omega) (by decide) (L + 8 + 4 + 2 + 32) rfl _ _ rfl rfl
  have c5 := number_ok (l ++ toB 8 b.t ++ toB 4 b.n ++ toB 2 b.c ++ b.e) (L + 8 + 4 + 2 + 32) (by simp [hL, toB_len, h.e] <;> omega) b.u 8 (L + 8 + 4 + 2 + 32 + 8) (by decide) (by decide) (by have := h.u; omega) (by omega) rfl _ _ rfl rfl
  have c6 := number_ok (l ++ toB 8 b.t ++ toB 4 b.n ++ toB 2 b.c ++ b.e ++ toB 8 b.u) (L + 8 + 4 + 2 + 32 + 8) (by simp [hL, toB_len, h.e] <;> omega) b.v 1 (L + 8 + 4 + 2 + 32 + 8 + 1) (by decide) (by decide) (by have := h.v; omega) (by omega) rfl _ _ rfl rfl
  have c7 := bytes_ok (l ++ toB 8 b.t ++ toB 4 b.n ++ toB 2 b.c ++ b.e ++ toB 8 b.u ++ toB 1 b.v) b.l (L + 8 + 4 + 2 + 32 + 8 + 1) b.l.length (by simp [hL, toB_len, h.e] <;> omega) rfl (by omega) (by have := h.l; omega) L2 (by omega) _ z2 rfl (by rw [← hz2]; unfold BodyT.out; simp only [List.append_assoc])
  generalize bs (l ++ toB 8 b.t ++ toB 4 b.n ++ toB 2 b.c ++ b.e ++ toB 8 b.u ++ toB 1 b.v) = z6 at *
  generalize bs (l ++ toB 8 b.t ++ toB 4 b.n ++ toB 2 b.c ++ b.e ++ toB 8 b.u) = z5 at *
  generalize bs (l ++ toB 8 b.t ++ toB 4 b.n ++ toB 2 b.c ++ b.e) = z4 at *
  generalize bs (l ++ toB 8 b.t ++ toB 4 b.n ++ toB 2 b.c) = z3 at *
  generalize bs (l ++ toB 8 b.t ++ toB 4 b.n) = z2' at *
  generalize bs (l ++ toB 8 b.t) = z1 at *
  unfold penM at *
  have hlen := bd_len h.e
  have hu := bd_dat h.e 0 _ rfl
  have hv := bd_dat h.e 1 _ rfl
  have hld := bd_dat h.e 2 _ rfl
  have hsl := bd_sl h.e
  have hcle : D.cls (bs b.e) = true := bs_cl _
  have hdl : Nat.ble (32 * 1) (b.cells.drop 3).length = true := by rw [List.length_drop, hlen]; rfl
  refine fn_intro Try.func63 rfl Try.ntmps63 rfl fun B => ?_
  iterate 4 (first | with_reducible (first | refine W_seq ?_ | refine q_then ?_) | (with_reducible refine R_nil ?_; try dsimp only [slots0, slots_ud, cells_U, agg_ud, drop0, dropS, takeS, take0, ud_nil, take_ud, take_ud0, drop_ud, drop_ud0, take_udk, D.cells, D.fz, D.fzs, List.take_succ_cons, List.take_zero, List.drop_succ_cons, List.drop_zero, List.cons_append, List.nil_append, List.append_eq, List.length_cons, List.length_nil, Nat.reduceAdd, Nat.reduceMul, Nat.reduceSub, Int.reduceAdd, Int.reduceSub, Int.reduceToNat, Int.reduceNeg, Int.reduceMul]) | refine W_plain rfl ?_ | refine and_chk (by kernel_rfl) ?_ | refine k_move rfl rfl ?_ | refine k_box rfl rfl rfl ?_ | (refine k_append rfl rfl rfl ?_ ?_ ?_ rfl ?_ rfl rfl rfl ?_; (first | rfl | exact trivial | (show 0 < _; omega)); (first | rfl | (simp <;> omega)); (first | rfl | (simp <;> omega)); (omega)) | refine k_loade rfl rfl rfl ?_ | refine k_fieldAddre rfl rfl rfl rfl ?_)
  refine W_of_weak (weak_fix 2 b.cells rfl (bd_cls b) (by repeat (first | exact trivial | refine ⟨⟨_, rfl, .ptr0⟩, ?_⟩ | refine ⟨⟨_, rfl, .refl _⟩, ?_⟩ | refine ⟨⟨_, rfl, .ptr _ rfl⟩, ?_⟩ | refine ⟨⟨_, rfl, .ms _ _ _ rfl⟩, ?_⟩)) (by repeat (first | exact trivial | refine ⟨⟨rfl, rfl, rfl⟩, ?_⟩)) (ρ1 := [(3, .eptr b.cells), (0, .ptr 0 0)]) (m1 := [(0, some (.var 138 [.slice (.own 1) L z])), (1, some (.tok 5 1))])) ?_
  repeat (first | with_reducible (first | refine W_seq ?_ | refine q_then ?_) | (with_reducible refine R_nil ?_; try dsimp only [slots0, slots_ud, cells_U, agg_ud, drop0, dropS, takeS, take0, ud_nil, take_ud, take_ud0, drop_ud, drop_ud0, take_udk, D.cells, D.fz, D.fzs, List.take_succ_cons, List.take_zero, List.drop_succ_cons, List.drop_zero, List.cons_append, List.nil_append, List.append_eq, List.length_cons, List.length_nil, Nat.reduceAdd, Nat.reduceMul, Nat.reduceSub, Int.reduceAdd, Int.reduceSub, Int.reduceToNat, Int.reduceNeg, Int.reduceMul]) | refine W_plain rfl ?_ | refine and_chk (by kernel_rfl) ?_ | refine k_fieldAddre rfl rfl rfl (by rw [hlen]; rfl) ?_ | refine k_loade rfl rfl (by exact hu _ _ rfl) ?_ | refine k_loade rfl rfl (by exact hv _ _ rfl) ?_ | refine k_loade rfl rfl (by exact hld _ _ rfl) ?_ | (refine k_sliceEt rfl rfl rfl ⟨?_, ?_⟩ rfl (by exact hdl) rfl (by exact hsl) ?_; (decide); (decide)) | refine k_move rfl rfl ?_ | refine k_box rfl rfl rfl ?_ | refine k_callf (ff 1 3) [0, 1, 2] (4) rfl (c1) rfl (by first | exact Ups.refl _ | assumption | ((repeat refine Ups.cons (by first | exact Up.refl _ | exact Up.nil _ | exact Up.fz _ _ _) ?_); exact Ups.nil)) (rfl) (by (repeat (first | refine ⟨⟨rfl, _, rfl, (by first | exact Ups.refl _ | assumption | ((repeat refine Ups.cons (by first | exact Up.refl _ | exact Up.nil _ | exact Up.fz _ _ _) ?_); exact Ups.nil)), rfl⟩, ?_⟩ | refine ⟨⟨rfl, rfl⟩, ?_⟩)); exact trivial) rfl rfl rfl rfl (rfl) (rfl) rfl rfl rfl rfl ?_ | refine k_callf (ff 3 4) [0, 1, 2] (5) rfl (c2) rfl (by first | exact Ups.refl _ | assumption | ((repeat refine Ups.cons (by first | exact Up.refl _ | exact Up.nil _ | exact Up.fz _ _ _) ?_); exact Ups.nil)) (rfl) (by (repeat (first | refine ⟨⟨rfl, _, rfl, (by first | exact Ups.refl _ | assumption | ((repeat refine Ups.cons (by first | exact Up.refl _ | exact Up.nil _ | exact Up.fz _ _ _) ?_); exact Ups.nil)), rfl⟩, ?_⟩ | refine ⟨⟨rfl, rfl⟩, ?_⟩)); exact trivial) rfl rfl rfl rfl (rfl) (rfl) rfl rfl rfl rfl ?_ | refine k_callf (ff 4 5) [0, 1, 2] (6) rfl (c3) rfl (by first | exact Ups.refl _ | assumption | ((repeat refine Ups.cons (by first | exact Up.refl _ | exact Up.nil _ | exact Up.fz _ _ _) ?_); exact Ups.nil)) (rfl) (by (repeat (first | refine ⟨⟨rfl, _, rfl, (by first | exact Ups.refl _ | assumption | ((repeat refine Ups.cons (by first | exact Up.refl _ | exact Up.nil _ | exact Up.fz _ _ _) ?_); exact Ups.nil)), rfl⟩, ?_⟩ | refine ⟨⟨rfl, rfl⟩, ?_⟩)); exact trivial) rfl rfl rfl rfl (rfl) (rfl) rfl rfl rfl rfl ?_ | refine k_callf (ff 5 6) [0, 1, 2] (7) rfl (c4) rfl (by first | exact Ups.refl _ | assumption | ((repeat refine Ups.cons (by first | exact Up.refl _ | exact Up.nil _ | exact Up.fz _ _ _) ?_); exact Ups.nil)) (rfl) (by (repeat (first | refine ⟨⟨rfl, _, rfl, (by first | exact Ups.refl _ | assumption | ((repeat refine Ups.cons (by first | exact Up.refl _ | exact Up.nil _ | exact Up.fz _ _ _) ?_); exact Ups.nil)), rfl⟩, ?_⟩ | refine ⟨⟨rfl, rfl⟩, ?_⟩)); exact trivial) rfl rfl rfl rfl (rfl) (rfl) rfl rfl rfl rfl ?_ | refine k_callf (ff 6 7) [0, 1, 2] (8) rfl (c5) rfl (by first | exact Ups.refl _ | assumption | ((repeat refine Ups.cons (by first | exact Up.refl _ | exact Up.nil _ | exact Up.fz _ _ _) ?_); exact Ups.nil)) (rfl) (by (repeat (first | refine ⟨⟨rfl, _, rfl, (by first | exact Ups.refl _ | assumption | ((repeat refine Ups.cons (by first | exact Up.refl _ | exact Up.nil _ | exact Up.fz _ _ _) ?_); exact Ups.nil)), rfl⟩, ?_⟩ | refine ⟨⟨rfl, rfl⟩, ?_⟩)); exact trivial) rfl rfl rfl rfl (rfl) (rfl) rfl rfl rfl rfl ?_ | refine k_callf (ff 7 8) [0, 1, 2] (9) rfl (c6) rfl (by first | exact Ups.refl _ | assumption | ((repeat refine Ups.cons (by first | exact Up.refl _ | exact Up.nil _ | exact Up.fz _ _ _) ?_); exact Ups.nil)) (rfl) (by (repeat (first | refine ⟨⟨rfl, _, rfl, (by first | exact Ups.refl _ | assumption | ((repeat refine Ups.cons (by first | exact Up.refl _ | exact Up.nil _ | exact Up.fz _ _ _) ?_); exact Ups.nil)), rfl⟩, ?_⟩ | refine ⟨⟨rfl, rfl⟩, ?_⟩)); exact trivial) rfl rfl rfl rfl (rfl) (rfl) rfl rfl rfl rfl ?_ | refine k_callf (ff 8 9) [0, 1, 2] (10) rfl (c7) rfl (by first | exact Ups.refl _ | assumption | ((repeat refine Ups.cons (by first | exact Up.refl _ | exact Up.nil _ | exact Up.fz _ _ _) ?_); exact Ups.nil)) (rfl) (by (repeat (first | refine ⟨⟨rfl, _, rfl, (by first | exact Ups.refl _ | assumption | ((repeat refine Ups.cons (by first | exact Up.refl _ | exact Up.nil _ | exact Up.fz _ _ _) ?_); exact Ups.nil)), rfl⟩, ?_⟩ | refine ⟨⟨rfl, rfl⟩, ?_⟩)); exact trivial) rfl rfl rfl rfl (rfl) (rfl) rfl rfl rfl rfl ?_ | (refine k_append rfl rfl rfl ?_ ?_ ?_ rfl ?_ rfl rfl rfl ?_; (first | rfl | exact trivial | (show 0 < _; omega)); (first | rfl | (simp <;> omega)); (first | rfl | (simp <;> omega)); (omega)) | refine k_loade rfl rfl rfl ?_ | refine k_fieldAddre rfl rfl rfl rfl ?_)
  first | exact (q_endf (ff 1 9) 10 (RetsF.r0 ) rfl (by repeat (first | exact trivial | refine ⟨⟨rfl, _, rfl, Ups.refl _, rfl⟩, ?_⟩ | refine ⟨⟨rfl, rfl⟩, ?_⟩)) rfl rfl rfl).2 | exact (q_endf (ff 1 9) 10 (RetsF.r0 ) rfl (by repeat (first | exact trivial | refine ⟨⟨rfl, _, rfl, Ups.refl _, rfl⟩, ?_⟩ | refine ⟨⟨rfl, rfl⟩, ?_⟩)) rfl rfl rfl).1
theorem ren2 (f : Nat → Nat) {a : D} {ds : List D} (h : D.cls ds = true) : Ups (a.ren f :: ds) (D.rens f (a :: ds)) := by
  show Ups _ (_ :: D.rens f ds)
  rw [(D.cls_ren f (fun _ => true) ds h).1]; exact Ups.refl _
theorem lal2 (p : Nat → Bool) {a : D} {ds : List D} (ha : a.lall p = true) (h : D.cls ds = true) : D.lalls p (a :: ds) = true := by
  show (a.lall p && D.lalls p ds) = true
  rw [ha, (D.cls_ren (fun l => l) p ds h).2]; rfl
abbrev fp (p a b : Nat) : Nat → Nat := fun l => cond (Nat.beq l 2) b (cond (Nat.beq l 1) a (cond (Nat.beq l 0) p l))
set_option maxHeartbeats 4000000 in
theorem pBytes_ok (b : BodyT) (h : b.ok) (n : Nat) (hn : b.out.length = n) : Pur Try.prog 55 [.agg b.cells] (.tup [.slice .frozen n (bs b.out), .int .i64 0]) := by
  have hol := b.out_len h
  have hb := body_ok [] 0 rfl (by decide) b h n (by omega) [] (bs b.out) rfl rfl
  have hc := bCheck_ok b h
  unfold penM at hb
  have hfz := bd_fz b
  have hcl := bd_cl b
  have hlen := bd_len h.e
  have hall := bd_all h.e
  have hput := bd_put h.e
  generalize bs b.out = z at *
  generalize b.cells = x at *
  clear hol h hn
  refine pur_intro Try.func55 rfl Try.ntmps55 rfl (by first | rfl | assumption | exact bs_cl _) fun B => ?_
  refine W_of_weak (weak_tok 5 1) ?_
  repeat (first | with_reducible (first | refine W_seq ?_ | refine q_then ?_ | refine W_ret ?_ | refine W_skip ?_) | (with_reducible refine R_nil ?_; try dsimp only [slots0, slots_ud, cells_U, agg_ud, drop0, dropS, takeS, take0, ud_nil, take_ud, take_ud0, drop_ud, drop_ud0, take_udk, D.cells, D.fz, D.fzs, List.take_succ_cons, List.take_zero, List.drop_succ_cons, List.drop_zero, List.cons_append, List.nil_append, List.append_eq, List.length_cons, List.length_nil, Nat.reduceAdd, Nat.reduceMul, Nat.reduceSub, Int.reduceAdd, Int.reduceSub, Int.reduceToNat, Int.reduceNeg, Int.reduceMul]) | refine W_plain rfl ?_ | refine and_chk (by kernel_rfl) ?_ | refine k_load rfl rfl rfl (hall _) ?_ | refine k_move rfl rfl ?_ | refine k_assign rfl rfl ?_ | refine k_load rfl rfl rfl rfl ?_ | refine k_box rfl rfl rfl ?_ | refine k_fieldAddr rfl rfl rfl ?_ | refine k_build rfl rfl rfl ?_ | refine k_call rfl hc rfl hfz hcl rfl ?_ | refine k_callf (fp 2 0 3) [0, 1, 2] (4) rfl (hb) rfl (ren2 (a := .ptr 0 0) (fp 2 0 3) hcl) (lal2 (a := .ptr 0 0) _ rfl hcl) (by (repeat (first | refine ⟨⟨rfl, _, rfl, (by first | exact Ups.refl _ | assumption | ((repeat refine Ups.cons (by first | exact Up.refl _ | exact Up.nil _ | exact Up.fz _ _ _) ?_); exact Ups.nil)), rfl⟩, ?_⟩ | refine ⟨⟨rfl, rfl⟩, ?_⟩)); exact trivial) rfl rfl rfl rfl (rfl) (rfl) rfl rfl rfl rfl ?_ | (refine k_append rfl rfl rfl ?_ ?_ ?_ rfl ?_ rfl rfl rfl ?_; (first | rfl | exact trivial | (show 0 < _; omega)); (first | rfl | (simp <;> omega)); (first | rfl | (simp <;> omega)); (omega)) | refine k_nilCheck rfl rfl rfl ?_ | (refine k_neqF rfl rfl rfl ?_ ?_; (omega)) | refine W_no rfl ?_)
  (first | with_reducible refine q_endr ?_); refine rets2 Try.results55 (by first | exact RetV.tmp _ _ rfl | exact RetV.cell _ _ _ _ _ _ _ _ inferInstance rfl rfl rfl) (by first | exact RetV.tmp _ _ rfl | exact RetV.cell _ _ _ _ _ _ _ _ inferInstance rfl rfl rfl) ?_ ?_
  · rfl
  · rfl
end Go.Proofs.Ytcfefmbbbfdppaa
namespace Go.Proofs.Ytcfefmbbbfdppaa
open Go.RowKit Go.Lib Go.IntWalk
set_option linter.unusedVariables false
set_option maxRecDepth 100000
def bx (t n c : Int) (e : List UInt8) (tl : List D) : List D := .int .i64 t :: .int .i64 n :: .int .i64 c :: (bs e ++ tl)
section
variable {t n c : Int} {e : List UInt8} (h : e.length = 32)
include h
theorem bx_len (tl : List D) (ht : tl.length = 3) : (bx t n c e tl).length = 38 := by
  unfold bx
  simp only [List.length_cons, List.length_append, bs_len, h, ht]
theorem bx_all (tl : List D) (ht : tl.length = 3) (ze : List D) : cut ⟨true, 38, ze⟩ 0 (bx t n c e tl) = some (.agg (bx t n c e tl)) := by
  unfold cut
  simp only [cond_true, Nat.zero_add, List.drop_zero]
  rw [bx_len h tl ht, List.take_of_length_le (by rw [bx_len h tl ht]; exact Nat.le_refl _)]
  rfl
theorem bx_lay (tl : List D) (ht : tl.length = 3) (cs : List D) (hc : cs.length = 38) : splice 0 (bx t n c e tl) cs = some (bx t n c e tl) := by
  unfold splice
  rw [Nat.ble_eq_true_of_le (by rw [bx_len h tl ht, hc]; exact Nat.le_refl _), cond_true, Nat.zero_add, List.drop_of_length_le (by rw [bx_len h tl ht, hc]; exact Nat.le_refl _)]
  simp
theorem bx_put (a b d x : D) (i : Nat) (tl : List D) (hi : (i = 0 ∧ tl = [x, b, d]) ∨ (i = 1 ∧ tl = [a, x, d]) ∨ (i = 2 ∧ tl = [a, b, x])) (j : Nat) (hj : j = 35 + i) : splice j [x] (bx t n c e [a, b, d]) = some (bx t n c e tl) := by
  subst hj
  unfold splice
  rw [Nat.ble_eq_true_of_le (by rw [bx_len h _ rfl]; simp; omega), cond_true]
  congr 1
  unfold bx
  rw [show 35 + i = 32 + i + 1 + 1 + 1 from by omega, show 32 + i + 1 + 1 + 1 + [x].length = (32 + (i + 1)) + 1 + 1 + 1 from by simp; omega]
  simp only [List.take_succ_cons, List.drop_succ_cons]
  rw [List.take_append, List.drop_append, List.take_of_length_le (by rw [bs_len, h]; omega), List.drop_of_length_le (by rw [bs_len, h]; omega), bs_len, h, Nat.add_sub_cancel_left, Nat.add_sub_cancel_left]
  rcases hi with ⟨rfl, rfl⟩ | ⟨rfl, rfl⟩ | ⟨rfl, rfl⟩ <;> simp
end
end Go.Proofs.Ytcfefmbbbfdppaa
