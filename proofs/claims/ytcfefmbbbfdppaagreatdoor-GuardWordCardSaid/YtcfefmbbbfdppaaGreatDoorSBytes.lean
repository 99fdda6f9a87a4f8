/- Bytes as data; bytes.Compare. No conditions. -/
import Derived.Test.YtcfefmbbbfdppaaGreatDoorSEq0
import Derived.Test.YtcfefmbbbfdppaaGreatDoorSDInst
import Derived.Test.YtcfefmbbbfdppaaGreatDoorSDFun
import Derived.Test.YtcfefmbbbfdppaaGreatDoorSDMore
import Derived.Lib.BytesEntry
namespace Go.Proofs.YtcfefmbbbfdppaaGreatDoor
open Go.RowKit
set_option linter.unusedVariables false
theorem u64_size : (Tryz.prog.info? 25).map (·.size) = some 1 := by kernel_rfl
@[go_sem] theorem eq_u256 (x0 x1 x2 x3 y0 y1 y2 y3 : Int) (w : World) :
    (Op.equalIn 10000 27 (.agg #[.int .u64 x0, .int .u64 x1, .int .u64 x2, .int .u64 x3]) (.agg #[.int .u64 y0, .int .u64 y1, .int .u64 y2, .int .u64 y3])).run Tryz.prog w = .ok (x0 == y0 && (x1 == y1 && (x2 == y2 && x3 == y3))) w := by
  obtain ⟨i, hi, hs⟩ := Option.map_eq_some_iff.1 u64_size
  have h := run_equalIn_ints (P := Tryz.prog) 9998 27 25 4 .u64 Tryz.underlying27 Tryz.underlying25 i hi hs [x0, x1, x2, x3] [y0, y1, y2, y3] rfl rfl w
  have e : ([x0, x1, x2, x3] == [y0, y1, y2, y3]) = (x0 == y0 && (x1 == y1 && (x2 == y2 && x3 == y3))) := by simp
  rw [e] at h
  exact h
theorem same_iff (a b : Nat) (ha : a < M256) (hb : b < M256) : (lim a 0 == lim b 0 && (lim a 1 == lim b 1 && (lim a 2 == lim b 2 && lim a 3 == lim b 3))) = decide (a = b) := by
  rw [Bool.eq_iff_iff]
  simp only [Bool.and_eq_true, beq_iff_eq, decide_eq_true_iff]
  constructor
  · rintro ⟨h0, h1, h2, h3⟩; exact lim_inj a b ha hb h0 h1 h2 h3
  · rintro rfl; exact ⟨rfl, rfl, rfl, rfl⟩
end Go.Proofs.YtcfefmbbbfdppaaGreatDoor
namespace Go.Proofs.YtcfefmbbbfdppaaGreatDoor
open Go.RowKit
set_option linter.unusedVariables false
def ud (n : Nat) : List D := [.int .u64 (lim n 0), .int .u64 (lim n 1), .int .u64 (lim n 2), .int .u64 (lim n 3)]
def U (n : Nat) : D := .agg (ud n)
theorem cells_U (n : Nat) : (U n).cells = ud n := rfl
theorem agg_ud (n : Nat) : D.agg (ud n) = U n := rfl
theorem take_ud (n : Nat) (r : List D) : List.take 4 (ud n ++ r) = ud n := rfl
theorem take_ud0 (n : Nat) : List.take 4 (ud n) = ud n := rfl
theorem take_udk (k n : Nat) (r : List D) : List.take (k + 4) (ud n ++ r) = ud n ++ List.take k r := rfl
theorem drop_ud (k n : Nat) (r : List D) : List.drop (k + 4) (ud n ++ r) = List.drop k r := rfl
theorem dropS (k : Nat) (a : D) (l : List D) : List.drop (k + 1) (a :: l) = List.drop k l := rfl
theorem takeS (k : Nat) (a : D) (l : List D) : List.take (k + 1) (a :: l) = a :: List.take k l := rfl
theorem take0 (l : List D) : List.take 0 l = [] := rfl
theorem ud_nil (n : Nat) : ud n ++ [] = ud n := rfl
theorem drop0 (l : List D) : List.drop 0 l = l := rfl
theorem drop_ud0 (n : Nat) : List.drop 4 (ud n) = [] := rfl
theorem slots_ud (n : Nat) : (ud n).length = 4 := rfl
theorem deqs_ud (a b : Nat) (ha : a < M256) (hb : b < M256) : deqs (ud a) (ud b) = decide (a = b) := by
  have := same_iff a b ha hb
  simp only [ud, deqs, deq1]
  rw [← this, Bool.and_true]
end Go.Proofs.YtcfefmbbbfdppaaGreatDoor
namespace Go.Proofs.YtcfefmbbbfdppaaGreatDoor
open Go.RowKit
set_option linter.unusedVariables false
set_option linter.unusedVariables false
def nodupB : List Nat → Bool
  | [] => true
  | x :: xs => !(xs.any (Nat.beq x)) && nodupB xs
theorem nodupB_nodup : ∀ {l : List Nat}, nodupB l = true → l.Nodup
  | [], _ => List.nodup_nil
  | x :: xs, h => by
    simp only [nodupB, Bool.and_eq_true, Bool.not_eq_true'] at h
    refine List.nodup_cons.2 ⟨fun hx => ?_, nodupB_nodup h.2⟩
    have := List.any_eq_false.1 h.1 x hx
    simp at this
def idB (f : Nat → Nat) : Nat → Bool
  | 0 => true
  | k + 1 => Nat.beq (f k) k && idB f k
theorem idB_id {f : Nat → Nat} : ∀ {k : Nat}, idB f k = true → ∀ l, l < k → f l = l
  | 0, _, l, h => by omega
  | k + 1, h, l, hl => by
    simp only [idB, Bool.and_eq_true] at h
    by_cases e : l = k
    · rw [e]; exact Nat.eq_of_beq_eq_true h.1
    · exact idB_id h.2 l (by omega)
def knB (ns : List Nat) (m0 : Mem) : Nat → Bool
  | 0 => true
  | k + 1 => (inns ns k && (mget m0 k).isSome) && knB ns m0 k
theorem knB_kn {ns : List Nat} {m0 : Mem} : ∀ {k : Nat}, knB ns m0 k = true → ∀ l, l < k → inns ns l = true ∧ (mget m0 l).isSome = true
  | 0, _, l, h => by omega
  | k + 1, h, l, hl => by
    simp only [knB, Bool.and_eq_true] at h
    by_cases e : l = k
    · rw [e]; exact h.1
    · exact knB_kn h.2 l (by omega)
def betw (a b : Nat) : List Nat → Bool
  | [] => true
  | x :: xs => (Nat.ble a x && Nat.blt x b) && betw a b xs
theorem betw_mem {a b : Nat} : ∀ {l : List Nat}, betw a b l = true → ∀ x ∈ l, a ≤ x ∧ x < b
  | [], _, x, h => by simp at h
  | y :: ys, h, x, hx => by
    simp only [betw, Bool.and_eq_true] at h
    rcases List.mem_cons.1 hx with rfl | hx
    · exact ⟨Nat.le_of_ble_eq_true h.1.1, Nat.blt_eq ▸ h.1.2⟩
    · exact betw_mem h.2 x hx
section
variable {P : Program} {ρ : Slots} {m : Mem} {nx : Nat} {ops : Array Oper} {os : List Oper} {K : List Eff → Slots → Mem → Nat → Prop}
theorem q_endf {rs : Array ResultVar} {k : Nat} {d : D} {m1 : Mem} (f : Nat → Nat) (K : Nat) (h : RetsF P f ρ m rs d) (hd : d.lall (below K) = true) (hm : SubMf f K m m1) (hn : nodupB (m1.map fun x => f x.1) = true) (hk : Nat.ble k K = true) (hf : idB f k = true) : endF P rs k d m1 .normal ρ m nx ∧ endF P rs k d m1 .ret ρ m nx :=
  ⟨q_fn f K h hd hm (nodupB_nodup hn) (Nat.le_of_ble_eq_true hk) (idB_id hf), q_fr f K h hd hm (nodupB_nodup hn) (Nat.le_of_ble_eq_true hk) (idB_id hf)⟩
theorem k_callf {t : Tmp} {F : FuncId} [HasFn P F] {args : Array Operand} {ts : Array TypeId} {k : Nat} {ds ds1 : List D} {m0 : Mem} {d d' : D} {m1 wr : Mem} {nw : List Nat} {V : TypeId} {pos : String} {af : Array Edge} {gd : Option (Nat × Bool)} (f : Nat → Nat) (ns : List Nat) (nx1 : Nat) (hg : gok ops ρ ⟨some t, .call { callee := .value (.func F), args := args, argTypes := ts }, V, pos, af, gd⟩ = some true)
    (hp : Fn P F k ds m0 d m1) (hx : oevs ρ args.toList = some ds1) (hu : Ups ds1 (D.rens f ds)) (hl : D.lalls (below k) ds = true) (hm : SubMf f k m m0) (hi : nodupB (ns.map f) = true) (hi0 : nodupB (m0.map fun x => f x.1) = true) (hk : knB ns m0 k = true) (h1 : Mlall (inns ns) m1 = true) (hd : d.lall (inns ns) = true)
    (hd' : d.ren f = d') (hwr : wrs f m1 ns = wr) (hnw : nws f k ns = nw) (hnx : Nat.ble nx nx1 = true) (hb : betw nx nx1 nw = true)
    (hh : R P ops os (fun Es => K (⟨d', [], wr, nw⟩ :: Es)) ((t, d') :: ρ) (wr ++ m) nx1) : R P ops (⟨some t, .call { callee := .value (.func F), args := args, argTypes := ts }, V, pos, af, gd⟩ :: os) K ρ m nx := by
  subst hd' hwr hnw
  exact R_news nx1 hg (r_callf hp f ns rfl hx hu hl hm (nodupB_nodup hi) (nodupB_nodup hi0) (knB_kn hk) h1 hd) (Nat.le_of_ble_eq_true hnx) (betw_mem hb) hh
end
end Go.Proofs.YtcfefmbbbfdppaaGreatDoor
namespace Go.Proofs.YtcfefmbbbfdppaaGreatDoor
open Go.RowKit
set_option linter.unusedVariables false
theorem cls_ups (f : Nat → Nat) (z : List D) (h : D.cls z = true) : Ups z (D.rens f z) := by
  rw [(D.cls_ren f (fun _ => true) _ h).1]; exact Ups.refl _
theorem cls_lalls (p : Nat → Bool) (z : List D) (h : D.cls z = true) : D.lalls p z = true := (D.cls_ren (fun l => l) p _ h).2
end Go.Proofs.YtcfefmbbbfdppaaGreatDoor
namespace Go.Proofs.YtcfefmbbbfdppaaGreatDoor
open Go.RowKit
set_option linter.unusedVariables false
structure Zk (H : Prop) : Prop where
  k : H
theorem zC {G H : Prop} (k : H) (h : Zk H → G := by intro kk; (first | with_reducible (first | refine W_seq ?_ | refine q_then ?_ | refine q_thenr ?_ | refine q_thenx ?_ | refine W_block ?_ | refine q_block ?_ | refine q_blockr ?_ | refine q_blockx ?_ | refine W_ret ?_ | refine W_skip ?_ | refine W_exit ?_) | (with_reducible refine R_nil ?_; try dsimp only [slots0, slots_ud, cells_U, agg_ud, drop0, dropS, takeS, take0, ud_nil, take_ud, take_ud0, drop_ud, drop_ud0, take_udk, D.cells, D.fz, D.fzs, List.take_succ_cons, List.take_zero, List.drop_succ_cons, List.drop_zero, List.cons_append, List.nil_append, List.append_eq, List.length_cons, List.length_nil, Nat.reduceAdd, Nat.reduceMul, Nat.reduceSub, Int.reduceAdd, Int.reduceSub, Int.reduceToNat, Int.reduceNeg, Int.reduceMul]) | refine q_blocky rfl ?_ | refine W_plain rfl ?_ | refine W_drawn mixed rfl ?_ | refine and_chk (by kernel_rfl) ?_); exact kk.1) : G := h ⟨k⟩
theorem zc {G H : Prop} (k : H) (h : Zk H → G := by intro kk; (first | with_reducible (first | refine W_seq ?_ | refine q_then ?_ | refine q_thenr ?_ | refine q_thenx ?_ | refine W_block ?_ | refine q_block ?_ | refine q_blockr ?_ | refine q_blockx ?_ | refine W_ret ?_ | refine W_skip ?_ | refine W_exit ?_) | with_reducible refine R_nil ?_ | refine q_blocky rfl ?_ | refine W_plain rfl ?_ | refine W_drawn mixed rfl ?_ | refine and_chk (by kernel_rfl) ?_); exact kk.1) : G := h ⟨k⟩
theorem zA {G H : Prop} (k : H) (h : Zk H → G := by intro kk; (first | refine k_move rfl rfl ?_ | refine k_assign rfl rfl ?_ | refine k_load rfl rfl rfl rfl ?_ | refine k_alloc rfl ?_ | refine k_box rfl rfl rfl ?_ | refine k_store rfl rfl rfl rfl rfl rfl rfl ?_ | refine k_extract rfl rfl rfl ?_ | refine k_fieldAddr rfl rfl rfl ?_ | refine k_build rfl rfl rfl ?_); exact kk.1) : G := h ⟨k⟩
theorem zB {G H : Prop} (k : H) (h : Zk H → G := by intro kk; (first | (refine k_append rfl rfl rfl ?_ ?_ ?_ rfl ?_ rfl rfl rfl ?_; (first | rfl | exact trivial | (show 0 < _; omega)); (first | rfl | (simp <;> omega)); (first | rfl | (simp <;> omega)); (omega)) | (refine k_slice rfl rfl rfl rfl ⟨?_, ?_, ?_⟩ rfl rfl rfl ?_; (omega); (omega); (omega)) | (refine k_slice3 rfl rfl rfl rfl rfl ⟨?_, ?_, ?_⟩ rfl rfl rfl ?_; (omega); (omega); (omega)) | (refine k_sliceA rfl rfl rfl rfl ⟨?_, ?_, ?_, ?_⟩ rfl rfl ?_; (omega); (omega); (omega); (omega)) | (refine k_sliceE rfl rfl rfl rfl ⟨?_, ?_, ?_, ?_⟩ rfl rfl rfl rfl ?_; (omega); (omega); (omega); (omega)) | refine k_buildSlice (cs := []) rfl rfl rfl rfl rfl rfl rfl ?_ | refine k_buildSlice rfl rfl rfl rfl rfl rfl rfl ?_ | (refine k_indexAddr rfl rfl rfl ⟨?_, ?_⟩ ?_; (omega); (omega)) | (refine k_indexAddrs rfl rfl rfl ⟨?_, ?_⟩ rfl ?_; (omega); (omega)) | (refine k_index rfl rfl rfl ⟨?_, ?_⟩ rfl ?_; (omega); (omega)) | refine k_loade rfl rfl rfl ?_ | refine k_fieldAddre rfl rfl rfl rfl ?_ | refine k_len rfl rfl ?_ | refine k_nilCheck rfl rfl rfl ?_ | refine k_pickT rfl rfl rfl ?_ | refine k_pickF rfl rfl rfl ?_ | (refine k_addi rfl rfl rfl ?_ ?_; (omega)) | (refine k_subi rfl rfl rfl ?_ ?_; (omega)) | refine k_not rfl rfl rfl ?_ | (refine k_lssT rfl rfl rfl ?_ ?_; (omega)) | (refine k_lssF rfl rfl rfl ?_ ?_; (omega)) | (refine k_leqT rfl rfl rfl ?_ ?_; (omega)) | (refine k_leqF rfl rfl rfl ?_ ?_; (omega)) | (refine k_gtrT rfl rfl rfl ?_ ?_; (omega)) | (refine k_gtrF rfl rfl rfl ?_ ?_; (omega)) | (refine k_geqT rfl rfl rfl ?_ ?_; (omega)) | (refine k_geqF rfl rfl rfl ?_ ?_; (omega)) | (refine k_eqlT rfl rfl rfl ?_ ?_; (omega)) | (refine k_eqlF rfl rfl rfl ?_ ?_; (omega)) | (refine k_neqT rfl rfl rfl ?_ ?_; (omega)) | (refine k_neqF rfl rfl rfl ?_ ?_; (omega)) | refine k_eqa rfl rfl rfl rfl rfl rfl ?_ | refine k_nea rfl rfl rfl rfl rfl rfl ?_ | refine k_skip rfl ?_ | refine W_yes rfl ?_ | refine W_no rfl ?_); exact kk.1) : G := h ⟨k⟩
theorem zAB {G H : Prop} (k : H) (h : Zk H → G := by intro kk; (first | refine k_move rfl rfl ?_ | refine k_assign rfl rfl ?_ | refine k_load rfl rfl rfl rfl ?_ | refine k_alloc rfl ?_ | refine k_box rfl rfl rfl ?_ | refine k_store rfl rfl rfl rfl rfl rfl rfl ?_ | refine k_extract rfl rfl rfl ?_ | refine k_fieldAddr rfl rfl rfl ?_ | refine k_build rfl rfl rfl ?_ | (refine k_append rfl rfl rfl ?_ ?_ ?_ rfl ?_ rfl rfl rfl ?_; (first | rfl | exact trivial | (show 0 < _; omega)); (first | rfl | (simp <;> omega)); (first | rfl | (simp <;> omega)); (omega)) | (refine k_slice rfl rfl rfl rfl ⟨?_, ?_, ?_⟩ rfl rfl rfl ?_; (omega); (omega); (omega)) | (refine k_slice3 rfl rfl rfl rfl rfl ⟨?_, ?_, ?_⟩ rfl rfl rfl ?_; (omega); (omega); (omega)) | (refine k_sliceA rfl rfl rfl rfl ⟨?_, ?_, ?_, ?_⟩ rfl rfl ?_; (omega); (omega); (omega); (omega)) | (refine k_sliceE rfl rfl rfl rfl ⟨?_, ?_, ?_, ?_⟩ rfl rfl rfl rfl ?_; (omega); (omega); (omega); (omega)) | refine k_buildSlice (cs := []) rfl rfl rfl rfl rfl rfl rfl ?_ | refine k_buildSlice rfl rfl rfl rfl rfl rfl rfl ?_ | (refine k_indexAddr rfl rfl rfl ⟨?_, ?_⟩ ?_; (omega); (omega)) | (refine k_indexAddrs rfl rfl rfl ⟨?_, ?_⟩ rfl ?_; (omega); (omega)) | (refine k_index rfl rfl rfl ⟨?_, ?_⟩ rfl ?_; (omega); (omega)) | refine k_loade rfl rfl rfl ?_ | refine k_fieldAddre rfl rfl rfl rfl ?_ | refine k_len rfl rfl ?_ | refine k_nilCheck rfl rfl rfl ?_ | refine k_pickT rfl rfl rfl ?_ | refine k_pickF rfl rfl rfl ?_ | (refine k_addi rfl rfl rfl ?_ ?_; (omega)) | (refine k_subi rfl rfl rfl ?_ ?_; (omega)) | refine k_not rfl rfl rfl ?_ | (refine k_lssT rfl rfl rfl ?_ ?_; (omega)) | (refine k_lssF rfl rfl rfl ?_ ?_; (omega)) | (refine k_leqT rfl rfl rfl ?_ ?_; (omega)) | (refine k_leqF rfl rfl rfl ?_ ?_; (omega)) | (refine k_gtrT rfl rfl rfl ?_ ?_; (omega)) | (refine k_gtrF rfl rfl rfl ?_ ?_; (omega)) | (refine k_geqT rfl rfl rfl ?_ ?_; (omega)) | (refine k_geqF rfl rfl rfl ?_ ?_; (omega)) | (refine k_eqlT rfl rfl rfl ?_ ?_; (omega)) | (refine k_eqlF rfl rfl rfl ?_ ?_; (omega)) | (refine k_neqT rfl rfl rfl ?_ ?_; (omega)) | (refine k_neqF rfl rfl rfl ?_ ?_; (omega)) | refine k_eqa rfl rfl rfl rfl rfl rfl ?_ | refine k_nea rfl rfl rfl rfl rfl rfl ?_ | refine k_skip rfl ?_ | refine W_yes rfl ?_ | refine W_no rfl ?_); exact kk.1) : G := h ⟨k⟩
theorem zR {G H : Prop} (k : H) (h : Zk H → G := by intro kk; (repeat (first | with_reducible (first | refine W_seq ?_ | refine q_then ?_ | refine q_thenr ?_ | refine q_thenx ?_ | refine W_block ?_ | refine q_block ?_ | refine q_blockr ?_ | refine q_blockx ?_ | refine W_ret ?_ | refine W_skip ?_ | refine W_exit ?_) | (with_reducible refine R_nil ?_; try dsimp only [slots0, slots_ud, cells_U, agg_ud, drop0, dropS, takeS, take0, ud_nil, take_ud, take_ud0, drop_ud, drop_ud0, take_udk, D.cells, D.fz, D.fzs, List.take_succ_cons, List.take_zero, List.drop_succ_cons, List.drop_zero, List.cons_append, List.nil_append, List.append_eq, List.length_cons, List.length_nil, Nat.reduceAdd, Nat.reduceMul, Nat.reduceSub, Int.reduceAdd, Int.reduceSub, Int.reduceToNat, Int.reduceNeg, Int.reduceMul]) | refine q_blocky rfl ?_ | refine W_plain rfl ?_ | refine W_drawn mixed rfl ?_ | refine and_chk (by kernel_rfl) ?_ | refine k_move rfl rfl ?_ | refine k_assign rfl rfl ?_ | refine k_load rfl rfl rfl rfl ?_ | refine k_alloc rfl ?_ | refine k_box rfl rfl rfl ?_ | refine k_store rfl rfl rfl rfl rfl rfl rfl ?_ | refine k_extract rfl rfl rfl ?_ | refine k_fieldAddr rfl rfl rfl ?_ | refine k_build rfl rfl rfl ?_ | (refine k_append rfl rfl rfl ?_ ?_ ?_ rfl ?_ rfl rfl rfl ?_; (first | rfl | exact trivial | (show 0 < _; omega)); (first | rfl | (simp <;> omega)); (first | rfl | (simp <;> omega)); (omega)) | (refine k_slice rfl rfl rfl rfl ⟨?_, ?_, ?_⟩ rfl rfl rfl ?_; (omega); (omega); (omega)) | (refine k_slice3 rfl rfl rfl rfl rfl ⟨?_, ?_, ?_⟩ rfl rfl rfl ?_; (omega); (omega); (omega)) | (refine k_sliceA rfl rfl rfl rfl ⟨?_, ?_, ?_, ?_⟩ rfl rfl ?_; (omega); (omega); (omega); (omega)) | (refine k_sliceE rfl rfl rfl rfl ⟨?_, ?_, ?_, ?_⟩ rfl rfl rfl rfl ?_; (omega); (omega); (omega); (omega)) | refine k_buildSlice (cs := []) rfl rfl rfl rfl rfl rfl rfl ?_ | refine k_buildSlice rfl rfl rfl rfl rfl rfl rfl ?_ | (refine k_indexAddr rfl rfl rfl ⟨?_, ?_⟩ ?_; (omega); (omega)) | (refine k_indexAddrs rfl rfl rfl ⟨?_, ?_⟩ rfl ?_; (omega); (omega)) | (refine k_index rfl rfl rfl ⟨?_, ?_⟩ rfl ?_; (omega); (omega)) | refine k_loade rfl rfl rfl ?_ | refine k_fieldAddre rfl rfl rfl rfl ?_ | refine k_len rfl rfl ?_ | refine k_nilCheck rfl rfl rfl ?_ | refine k_pickT rfl rfl rfl ?_ | refine k_pickF rfl rfl rfl ?_ | (refine k_addi rfl rfl rfl ?_ ?_; (omega)) | (refine k_subi rfl rfl rfl ?_ ?_; (omega)) | refine k_not rfl rfl rfl ?_ | (refine k_lssT rfl rfl rfl ?_ ?_; (omega)) | (refine k_lssF rfl rfl rfl ?_ ?_; (omega)) | (refine k_leqT rfl rfl rfl ?_ ?_; (omega)) | (refine k_leqF rfl rfl rfl ?_ ?_; (omega)) | (refine k_gtrT rfl rfl rfl ?_ ?_; (omega)) | (refine k_gtrF rfl rfl rfl ?_ ?_; (omega)) | (refine k_geqT rfl rfl rfl ?_ ?_; (omega)) | (refine k_geqF rfl rfl rfl ?_ ?_; (omega)) | (refine k_eqlT rfl rfl rfl ?_ ?_; (omega)) | (refine k_eqlF rfl rfl rfl ?_ ?_; (omega)) | (refine k_neqT rfl rfl rfl ?_ ?_; (omega)) | (refine k_neqF rfl rfl rfl ?_ ?_; (omega)) | refine k_eqa rfl rfl rfl rfl rfl rfl ?_ | refine k_nea rfl rfl rfl rfl rfl rfl ?_ | refine k_skip rfl ?_ | refine W_yes rfl ?_ | refine W_no rfl ?_)); exact kk.1) : G := h ⟨k⟩
theorem zr {G H : Prop} (k : H) (h : Zk H → G := by intro kk; (repeat (first | with_reducible (first | refine W_seq ?_ | refine q_then ?_ | refine q_thenr ?_ | refine q_thenx ?_ | refine W_block ?_ | refine q_block ?_ | refine q_blockr ?_ | refine q_blockx ?_ | refine W_ret ?_ | refine W_skip ?_ | refine W_exit ?_) | with_reducible refine R_nil ?_ | refine q_blocky rfl ?_ | refine W_plain rfl ?_ | refine W_drawn mixed rfl ?_ | refine and_chk (by kernel_rfl) ?_ | refine k_move rfl rfl ?_ | refine k_assign rfl rfl ?_ | refine k_load rfl rfl rfl rfl ?_ | refine k_alloc rfl ?_ | refine k_box rfl rfl rfl ?_ | refine k_store rfl rfl rfl rfl rfl rfl rfl ?_ | refine k_extract rfl rfl rfl ?_ | refine k_fieldAddr rfl rfl rfl ?_ | refine k_build rfl rfl rfl ?_ | (refine k_append rfl rfl rfl ?_ ?_ ?_ rfl ?_ rfl rfl rfl ?_; (first | rfl | exact trivial | (show 0 < _; omega)); (first | rfl | (simp <;> omega)); (first | rfl | (simp <;> omega)); (omega)) | (refine k_slice rfl rfl rfl rfl ⟨?_, ?_, ?_⟩ rfl rfl rfl ?_; (omega); (omega); (omega)) | (refine k_slice3 rfl rfl rfl rfl rfl ⟨?_, ?_, ?_⟩ rfl rfl rfl ?_; (omega); (omega); (omega)) | (refine k_sliceA rfl rfl rfl rfl ⟨?_, ?_, ?_, ?_⟩ rfl rfl ?_; (omega); (omega); (omega); (omega)) | (refine k_sliceE rfl rfl rfl rfl ⟨?_, ?_, ?_, ?_⟩ rfl rfl rfl rfl ?_; (omega); (omega); (omega); (omega)) | refine k_buildSlice (cs := []) rfl rfl rfl rfl rfl rfl rfl ?_ | refine k_buildSlice rfl rfl rfl rfl rfl rfl rfl ?_ | (refine k_indexAddr rfl rfl rfl ⟨?_, ?_⟩ ?_; (omega); (omega)) | (refine k_indexAddrs rfl rfl rfl ⟨?_, ?_⟩ rfl ?_; (omega); (omega)) | (refine k_index rfl rfl rfl ⟨?_, ?_⟩ rfl ?_; (omega); (omega)) | refine k_loade rfl rfl rfl ?_ | refine k_fieldAddre rfl rfl rfl rfl ?_ | refine k_len rfl rfl ?_ | refine k_nilCheck rfl rfl rfl ?_ | refine k_pickT rfl rfl rfl ?_ | refine k_pickF rfl rfl rfl ?_ | (refine k_addi rfl rfl rfl ?_ ?_; (omega)) | (refine k_subi rfl rfl rfl ?_ ?_; (omega)) | refine k_not rfl rfl rfl ?_ | (refine k_lssT rfl rfl rfl ?_ ?_; (omega)) | (refine k_lssF rfl rfl rfl ?_ ?_; (omega)) | (refine k_leqT rfl rfl rfl ?_ ?_; (omega)) | (refine k_leqF rfl rfl rfl ?_ ?_; (omega)) | (refine k_gtrT rfl rfl rfl ?_ ?_; (omega)) | (refine k_gtrF rfl rfl rfl ?_ ?_; (omega)) | (refine k_geqT rfl rfl rfl ?_ ?_; (omega)) | (refine k_geqF rfl rfl rfl ?_ ?_; (omega)) | (refine k_eqlT rfl rfl rfl ?_ ?_; (omega)) | (refine k_eqlF rfl rfl rfl ?_ ?_; (omega)) | (refine k_neqT rfl rfl rfl ?_ ?_; (omega)) | (refine k_neqF rfl rfl rfl ?_ ?_; (omega)) | refine k_eqa rfl rfl rfl rfl rfl rfl ?_ | refine k_nea rfl rfl rfl rfl rfl rfl ?_ | refine k_skip rfl ?_ | refine W_yes rfl ?_ | refine W_no rfl ?_)); exact kk.1) : G := h ⟨k⟩
theorem zu {A : Prop} (h : A := by first | exact Up.refl _ | exact Up.fz _ _ _ | exact Up.nil _ | exact Up.nrs _ | assumption) : A := h
theorem zus {A : Prop} (h : A := by first | exact Ups.refl _ | assumption | ((repeat refine Ups.cons (by first | exact Up.refl _ | exact Up.nil _ | exact Up.fz _ _ _) ?_); exact Ups.nil)) : A := h
theorem zv {A : Prop} (h : A := by first | exact RetV.tmp _ _ rfl | exact RetV.cell _ _ _ _ _ _ _ _ inferInstance rfl rfl rfl) : A := h
theorem zmf {A : Prop} (h : A := by (repeat (first | refine ⟨⟨rfl, _, rfl, zus, rfl⟩, ?_⟩ | refine ⟨⟨rfl, rfl⟩, ?_⟩)); exact trivial) : A := h
theorem zs {A : Prop} (h : A := by repeat (first | exact trivial | refine ⟨⟨rfl, rfl⟩, ?_⟩ | refine ⟨⟨rfl, bs_bel _ _⟩, ?_⟩ | refine ⟨⟨rfl, arr_bels _ _ _⟩, ?_⟩)) : A := h
theorem zm {A : Prop} (h : A := by repeat (first | exact trivial | refine ⟨⟨rfl, rfl, rfl⟩, ?_⟩ | refine ⟨⟨rfl, rfl, bs_bels _ _⟩, ?_⟩ | refine ⟨⟨rfl, rfl, arr_bels _ _ _⟩, ?_⟩)) : A := h
theorem zsx {A : Prop} (h : A := by repeat (first | exact trivial | refine ⟨⟨_, rfl, .ptr0⟩, ?_⟩ | refine ⟨⟨_, rfl, .refl _⟩, ?_⟩ | refine ⟨⟨_, rfl, .ptr _ rfl⟩, ?_⟩ | refine ⟨⟨_, rfl, .ms _ _ _ rfl⟩, ?_⟩)) : A := h
theorem zmx {A : Prop} (h : A := by repeat (first | exact trivial | refine ⟨⟨rfl, rfl, rfl⟩, ?_⟩)) : A := h
section
variable {B : Base} {N : Nat} {ρ ρ1 : Slots} {m m1 : Mem} {nx nx1 : Nat}
theorem zF [hB : B.Lim 0] (f : Nat → Nat) (hρ : SubSf f nx1 ρ ρ1 := by repeat (first | exact trivial | refine ⟨⟨_, rfl, zu, rfl⟩, ?_⟩)) (hm : SubMf f nx1 m m1 := by repeat (first | exact trivial | refine ⟨⟨rfl, _, rfl, zus, rfl⟩, ?_⟩ | refine ⟨⟨rfl, rfl⟩, ?_⟩ | refine ⟨⟨rfl, _, rfl, bs_ups _ _, bs_lalls _ _⟩, ?_⟩ | refine ⟨⟨rfl, _, rfl, cls_ups _ _ (by assumption), cls_lalls _ _ (by assumption)⟩, ?_⟩)) (hi : (m1.map fun x => f x.1).Nodup := by first | decide | simp) : Weak B N ρ m nx ρ1 m1 nx1 := weak_ren f hρ hm hi (Nat.zero_le _) (fun _ h => absurd h (Nat.not_lt_zero _))
theorem zK {k : Nat} [hB : B.Lim k] (f : Nat → Nat) (hρ : SubSf f nx1 ρ ρ1 := by repeat (first | exact trivial | refine ⟨⟨_, rfl, zu, rfl⟩, ?_⟩)) (hm : SubMf f nx1 m m1 := by repeat (first | exact trivial | refine ⟨⟨rfl, _, rfl, zus, rfl⟩, ?_⟩ | refine ⟨⟨rfl, rfl⟩, ?_⟩ | refine ⟨⟨rfl, _, rfl, cls_ups _ _ (by assumption), cls_lalls _ _ (by assumption)⟩, ?_⟩)) (hi : (m1.map fun x => f x.1).Nodup := by first | decide | simp) (hk : k ≤ nx1 := by first | decide | omega) (hf : idB f k = true := by exact rfl) : Weak B N ρ m nx ρ1 m1 nx1 := weak_ren f hρ hm hi hk (fun l h => idB_id hf l h)
end
end Go.Proofs.YtcfefmbbbfdppaaGreatDoor
namespace Go.Proofs.YtcfefmbbbfdppaaGreatDoor
open Go.RowKit
set_option linter.unusedVariables false
set_option linter.unusedVariables false
def allsz (w : World) (b : Nat) : Nat := match w.heap[b]? with | some (.cells vs _ _) => vs.size | _ => 0
inductive Views (m : Mem) : List D → List D → List Nat → Prop where
  | nil : Views m [] [] []
  | fz {d e : D} {ds es : List D} {rd : List Nat} (h : d.fz = e) (hc : e.cl = true) (t : Views m ds es rd) : Views m (d :: ds) (e :: es) rd
  | ms {l off n : Nat} {T : TypeId} {vs cs : List D} {ds es : List D} {rd : List Nat} (c : Nat) (hm : mget m l = some (.var T vs)) (hcs : (vs.drop off).take c = cs) (hle : Nat.ble (off + c) vs.length = true) (hcl : D.cls cs = true) (t : Views m ds es rd) : Views m (.ms l off n :: ds) (.slice .frozen n cs :: es) (l :: rd)
theorem Views.reps {m m' : Mem} {B : Base} {G : Gh} {w : World} (hs : Sim B G m' w) {hw2 : Nat → Nat} (hle : ∀ b, G.hw b ≤ hw2 b) : ∀ {ds es : List D} {rd : List Nat}, Views m ds es rd → (∀ l ∈ rd, mget m' l = mget m l) → (∀ l ∈ rd, hw2 (G.g l) = allsz w (G.g l)) → ∀ {vs : Array Value}, Reps G w ds vs → Reps (bare hw2) w es vs := by
  intro ds es rd h
  induction h with
  | nil => intro _ _ vs h; rw [h.unnil]; exact Reps.nil
  | fz h hc t ih =>
    intro h1 h2 vs hr
    obtain ⟨v, rest, rfl, hv, hrest⟩ := hr.uncons
    refine Reps.cons ?_ (ih h1 h2 hrest)
    have := hv.fz
    rw [h] at this
    have := this.closed (bare G.hw) rfl hc
    exact this.mono ⟨fun l hl => by simp [bare] at hl, hle, fun _ _ _ => rfl, Nat.le_refl _⟩
  | @ms l off n T vs cs ds es rd c hm hcs hle' hcl t ih =>
    intro h1 h2 vs' hr
    obtain ⟨v, rest, rfl, hv, hrest⟩ := hr.uncons
    refine Reps.cons ?_ (ih (fun l hl => h1 l (by simp [hl])) (fun l hl => h2 l (by simp [hl])) hrest)
    have hml : mget m' l = some (.var T vs) := (h1 l (by simp)).trans hm
    obtain ⟨a1, a2, a3, a4, cur, a5, a6, a7⟩ := hs.var l T vs hml
    have hsz : hw2 (G.g l) = cur.size := by rw [h2 l (by simp)]; unfold allsz; rw [a5]
    have hle'' := Nat.le_of_ble_eq_true hle'
    have hcu := a6.1
    have hlen : cs.length = c := by rw [← hcs]; simp; omega
    cases hv with
    | ms l off n cap hk hn =>
      refine .slice .frozen n cs (G.g l) off cap (cur.extract off (off + c)) (by simp; omega) (fun d hd => ?_) (fun i d v hd hv => ?_) (by show _ ≤ hw2 (G.g l); rw [hsz]; omega) (fun i hi => ?_) (hs.vlt hml) hn trivial
      · refine ⟨?_, D.cls_mem hcl d hd⟩
        rw [← hcs] at hd
        exact a7 d (List.mem_of_mem_drop (List.mem_of_mem_take hd))
      · have hcd : d.cl = true := D.cls_mem hcl d (List.mem_of_getElem? hd)
        rw [← hcs, List.getElem?_take] at hd
        split at hd
        · rw [List.getElem?_drop] at hd
          rw [Array.getElem?_extract] at hv
          split at hv
          · exact ((a6.2 _ d v hd hv).closed (bare G.hw) rfl hcd).mono ⟨fun l hl => by simp [bare] at hl, hle, fun _ _ _ => rfl, Nat.le_refl _⟩
          · cases hv
        · cases hd
      · rw [cell_of_row w _ _ cur T (0, 0) a5, Array.getElem?_extract, if_pos (by omega)]
section
variable {P : Program} {o : Oper} {ρ : Slots} {m : Mem}
theorem r_callms {F : FuncId} [hf : HasFn P F] {args : Array Operand} {ts : Array TypeId} {ds ds' : List D} {d : D} {rd : List Nat} (hp : Pur P F ds' d) (ho : o.op = .call { callee := .value (.func F), args := args, argTypes := ts }) (hx : oevs ρ args.toList = some ds) (hv : Views m ds ds' rd) (hd : d.ok = true) : OpSound P o ⟨d, rd, [], []⟩ ρ m := by
  intro B G a w m' K Q hs h hag hn hK
  obtain ⟨vs, hrun, hr⟩ := enter_fn (P := P) ho hx h
  let hw2 : Nat → Nat := fun b => if b ∈ rd.map G.g then allsz w b else G.hw b
  have hagl : ∀ l ∈ rd, mget m' l = mget m l := fun l hl => hag l (by unfold Eff.touch; rw [Bool.or_eq_true]; exact .inl (List.any_eq_true.2 ⟨l, hl, by simp⟩))
  have hok : HwOk hw2 w := fun b hb => by
    by_cases c : b ∈ rd.map G.g
    · have e : hw2 b = allsz w b := by simp only [hw2]; rw [if_pos c]
      rw [e] at hb ⊢
      unfold allsz at hb ⊢
      cases hh : w.heap[b]? with
      | none => rw [hh] at hb; simp at hb
      | some ob => cases ob with
        | cells vs T fr => exact ⟨vs, T, fr, rfl, Nat.le_refl _⟩
        | _ => rw [hh] at hb; simp at hb
    · have e : hw2 b = G.hw b := by simp only [hw2]; rw [if_neg c]
      rw [e] at hb ⊢
      exact hs.data b hb
  have hle : ∀ b, G.hw b ≤ hw2 b := fun b => by
    by_cases c : b ∈ rd.map G.g
    · have e : hw2 b = allsz w b := by simp only [hw2]; rw [if_pos c]
      rw [e]
      rcases Nat.eq_zero_or_pos (G.hw b) with h0 | h0
      · omega
      · obtain ⟨vs, T, fr, h1, h2⟩ := hs.data b h0
        unfold allsz; rw [h1]; exact h2
    · have e : hw2 b = G.hw b := by simp only [hw2]; rw [if_neg c]
      rw [e]; exact Nat.le_refl _
  have hr2 := hv.reps hs hle hagl (fun l hl => by simp only [hw2]; rw [if_pos (List.mem_map.2 ⟨l, hl, rfl⟩)]) hr
  unfold Oper.wp
  rw [hrun, Oper.upon_enter]
  refine (hp w hw2 vs hs.gtab_ hok hr2).mono fun e w' ⟨v, hw', he, hN, _, _, hrv⟩ => ?_
  subst he
  obtain ⟨u, hu, hru⟩ := D.ok_val G w' d hd
  have := hrv.val_eq hu
  subst this
  exact hK v w' G (Ext.grow hs.data hN) (hs.grow hN) hru fun l hl => .inl hl
end
section
variable {P : Program} {ρ : Slots} {m : Mem} {nx : Nat} {ops : Array Oper} {os : List Oper} {K : List Eff → Slots → Mem → Nat → Prop}
theorem k_callms {t : Tmp} {F : FuncId} [HasFn P F] {args : Array Operand} {ts : Array TypeId} {ds ds' : List D} {d : D} {rd : List Nat} {V : TypeId} {pos : String} {af : Array Edge} {gd : Option (Nat × Bool)} (hg : gok ops ρ ⟨some t, .call { callee := .value (.func F), args := args, argTypes := ts }, V, pos, af, gd⟩ = some true)
    (hp : Pur P F ds' d) (hx : oevs ρ args.toList = some ds) (hv : Views m ds ds' rd) (hd : d.ok = true) (hh : R P ops os (fun Es => K (⟨d, rd, [], []⟩ :: Es)) ((t, d) :: ρ) m nx) : R P ops (⟨some t, .call { callee := .value (.func F), args := args, argTypes := ts }, V, pos, af, gd⟩ :: os) K ρ m nx :=
  R_cons hg (r_callms hp rfl hx hv hd) rfl hh
end
end Go.Proofs.YtcfefmbbbfdppaaGreatDoor
namespace Go.Proofs.YtcfefmbbbfdppaaGreatDoor
open Go.RowKit Go.Lib
set_option linter.unusedVariables false
def bs (l : List UInt8) : List D := l.map fun x => .int .u8 (x.toNat : Int)
theorem bs_len (l : List UInt8) : (bs l).length = l.length := by simp [bs]
theorem bs_cl (l : List UInt8) : D.cls (bs l) = true := D.cls_of fun d hd => by
  obtain ⟨x, _, rfl⟩ := List.mem_map.1 hd
  rfl
section
variable {P : Program}
variable {o : Oper} {ρ : Slots} {m : Mem}
end
section
variable {P : Program} {ρ : Slots} {m : Mem} {nx : Nat} {ops : Array Oper} {os : List Oper} {K : List Eff → Slots → Mem → Nat → Prop}
end
end Go.Proofs.YtcfefmbbbfdppaaGreatDoor
