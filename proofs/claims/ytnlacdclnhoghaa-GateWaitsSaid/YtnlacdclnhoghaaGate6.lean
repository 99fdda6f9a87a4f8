/- The laws' gateOf, gateTells. No conditions. -/
import Derived.Test.YtnlacdclnhoghaaGate5
namespace Go.Proofs.Ytnlacdclnhoghaa
open Go.RowKit Go.IntWalk Go.Lib
set_option linter.unusedVariables false
set_option maxRecDepth 100000
theorem pur_upl {P : Program} {F : FuncId} {ds es : List D} {d : D} (h : Pur P F es d) (u : Ups ds es) : Pur P F ds d := fun w hw vs hg hok hr => h w hw vs hg hok (u.reps hr)
def gofG (a b : Int) : GT := ⟨50 + (a.fdiv 1 % 100).toNat, 50 + (a.fdiv 2 % 100).toNat, 50 + (a.fdiv 4 % 100).toNat, 20 + (b.fdiv 1 % 60).toNat, 20 + (b.fdiv 2 % 60).toNat, 20 + (b.fdiv 4 % 60).toNat, (a % 50).toNat, [], []⟩
theorem gof_start (a b : Int) : Start (gofG a b) := by
  refine ⟨rfl, rfl, by show (a % 50).toNat < 50; omega, fun x hx => ?_⟩
  simp only [gofG, List.mem_cons, List.not_mem_nil, or_false] at hx
  rcases hx with rfl | rfl | rfl | rfl | rfl | rfl <;> omega
def GT.cells0 (g : GT) : List D := [.int .i64 g.l0, .int .i64 g.l1, .int .i64 g.l2, .int .i64 g.b0, .int .i64 g.b1, .int .i64 g.b2, .int .i64 g.now, .slice .nil 0 [], .slice .nil 0 []]
theorem GT.ups0 (g : GT) (h : Start g) : Up (.agg g.cells0) (.agg g.cells) := by
  refine .agg_ ?_
  unfold GT.cells0 GT.cells gC qD
  rw [h.past, h.queue]
  exact .cons (.refl _) (.cons (.refl _) (.cons (.refl _) (.cons (.refl _) (.cons (.refl _) (.cons (.refl _) (.cons (.refl _) (.cons (.nil _) (.cons (.nil _) .nil))))))))
set_option maxHeartbeats 16000000 in
theorem gateOf_ok (k a b : Int) (s : ByteArray) : Pur Try.prog 12 [.agg [.int .i64 k, .int .i64 a, .int .i64 b, .str s]] (.agg (gofG a b).cells0) := by
  have pn := p_picked a 50 ((a % 50).toNat : Int) (by decide) (by decide) (by omega)
  have p0 := p_picked (a.fdiv 1) 100 ((a.fdiv 1 % 100).toNat : Int) (by decide) (by decide) (by omega)
  have p1 := p_picked (a.fdiv 2) 100 ((a.fdiv 2 % 100).toNat : Int) (by decide) (by decide) (by omega)
  have p2 := p_picked (a.fdiv 4) 100 ((a.fdiv 4 % 100).toNat : Int) (by decide) (by decide) (by omega)
  have q0 := p_picked (b.fdiv 1) 60 ((b.fdiv 1 % 60).toNat : Int) (by decide) (by decide) (by omega)
  have q1 := p_picked (b.fdiv 2) 60 ((b.fdiv 2 % 60).toNat : Int) (by decide) (by decide) (by omega)
  have q2 := p_picked (b.fdiv 4) 60 ((b.fdiv 4 % 60).toNat : Int) (by decide) (by decide) (by omega)
  have hA : ∀ x : Nat, x < 100 → IntKind.i64.wrap (50 + (x : Int)) = ((50 + x : Nat) : Int) := fun x hx => by rw [i64_in _ (by omega)]; omega
  have hB : ∀ x : Nat, x < 100 → IntKind.i64.wrap (20 + (x : Int)) = ((20 + x : Nat) : Int) := fun x hx => by rw [i64_in _ (by omega)]; omega
  have a0 := hA (a.fdiv 1 % 100).toNat (by omega)
  have a1 := hA (a.fdiv 2 % 100).toNat (by omega)
  have a2 := hA (a.fdiv 4 % 100).toNat (by omega)
  have c0 := hB (b.fdiv 1 % 60).toNat (by omega)
  have c1 := hB (b.fdiv 2 % 60).toNat (by omega)
  have c2 := hB (b.fdiv 4 % 60).toNat (by omega)
  have s0 : ∀ x : Int, x.fdiv (2 ^ (min (0 : Int).toNat IntKind.i64.bits)) = x.fdiv 1 := fun _ => rfl
  have s1 : ∀ x : Int, x.fdiv (2 ^ (min (1 : Int).toNat IntKind.i64.bits)) = x.fdiv 2 := fun _ => rfl
  have s2 : ∀ x : Int, x.fdiv (2 ^ (min (2 : Int).toNat IntKind.i64.bits)) = x.fdiv 4 := fun _ => rfl
  unfold gofG GT.cells0
  dsimp only
  generalize (a.fdiv 1 % 100).toNat = x0 at *
  generalize (a.fdiv 2 % 100).toNat = x1 at *
  generalize (a.fdiv 4 % 100).toNat = x2 at *
  generalize (b.fdiv 1 % 60).toNat = y0 at *
  generalize (b.fdiv 2 % 60).toNat = y1 at *
  generalize (b.fdiv 4 % 60).toNat = y2 at *
  generalize (a % 50).toNat = n0 at *
  refine pur_intro Try.func12 rfl Try.ntmps12 rfl (by first | rfl | assumption | exact bs_cl _) fun B => ?_
  repeat (first | with_reducible (first | refine W_seq ?_ | refine q_then ?_ | refine q_thenr ?_ | refine q_thenx ?_ | refine W_block ?_ | refine q_block ?_ | refine q_blockr ?_ | refine q_blockx ?_ | refine W_ret ?_ | refine W_skip ?_ | refine W_label ?_ | refine W_exit ?_ | refine W_scope ?_ | refine q_scope ?_ | refine q_scoper ?_ | refine q_scopex ?_) | (with_reducible refine R_nil ?_; try dsimp only [slots0, slots_ud, cells_U, agg_ud, drop0, dropS, takeS, take0, ud_nil, take_ud, take_ud0, drop_ud, drop_ud0, take_udk, D.cells, D.fz, D.fzs, List.take_succ_cons, List.take_zero, List.drop_succ_cons, List.drop_zero, List.cons_append, List.nil_append, List.append_eq, List.length_cons, List.length_nil, Nat.reduceAdd, Nat.reduceMul, Nat.reduceSub, Int.reduceAdd, Int.reduceSub, Int.reduceToNat, Int.reduceNeg, Int.reduceMul]) | refine q_blocky rfl ?_ | refine W_plain rfl ?_ | refine W_drawn mixed rfl ?_ | refine and_chk (by kernel_rfl) ?_ | (refine k_shr rfl rfl rfl ?_ (s0 _) ?_; (decide)) | (refine k_shr rfl rfl rfl ?_ (s1 _) ?_; (decide)) | (refine k_shr rfl rfl rfl ?_ (s2 _) ?_; (decide)) | refine k_add rfl rfl rfl a0 ?_ | refine k_add rfl rfl rfl a1 ?_ | refine k_add rfl rfl rfl a2 ?_ | refine k_add rfl rfl rfl c0 ?_ | refine k_add rfl rfl rfl c1 ?_ | refine k_add rfl rfl rfl c2 ?_ | refine k_move rfl rfl ?_ | refine k_assign rfl rfl ?_ | refine k_load rfl rfl rfl rfl ?_ | refine k_alloc rfl ?_ | refine k_box rfl rfl rfl ?_ | refine k_store rfl rfl rfl rfl rfl rfl rfl ?_ | refine k_fieldAddr rfl rfl rfl ?_ | refine k_build rfl rfl rfl ?_ | refine k_call rfl pn rfl rfl rfl rfl ?_ | refine k_call rfl p0 rfl rfl rfl rfl ?_ | refine k_call rfl p1 rfl rfl rfl rfl ?_ | refine k_call rfl p2 rfl rfl rfl rfl ?_ | refine k_call rfl q0 rfl rfl rfl rfl ?_ | refine k_call rfl q1 rfl rfl rfl rfl ?_ | refine k_call rfl q2 rfl rfl rfl rfl ?_ | refine W_unroll (WL_round ?_) | refine WL_round ?_ | (refine k_append rfl rfl rfl ?_ ?_ ?_ rfl ?_ rfl rfl rfl ?_; (first | rfl | exact trivial | (show 0 < _; omega)); (first | rfl | (simp <;> omega)); (first | rfl | (simp <;> omega)); (omega)) | (refine k_slice rfl rfl rfl rfl ⟨?_, ?_, ?_⟩ rfl rfl rfl ?_; (omega); (omega); (omega)) | (refine k_slice3 rfl rfl rfl rfl rfl ⟨?_, ?_, ?_⟩ rfl rfl rfl ?_; (omega); (omega); (omega)) | (refine k_sliceA rfl rfl rfl rfl ⟨?_, ?_, ?_, ?_⟩ rfl rfl ?_; (omega); (omega); (omega); (omega)) | (refine k_sliceE rfl rfl rfl rfl ⟨?_, ?_, ?_, ?_⟩ rfl rfl rfl rfl ?_; (omega); (omega); (omega); (omega)) | (refine k_indexAddr rfl rfl rfl ⟨?_, ?_⟩ ?_; (omega); (omega)) | (refine k_indexAddrs rfl rfl rfl ⟨?_, ?_⟩ rfl ?_; (omega); (omega)) | refine k_loade rfl rfl rfl ?_ | refine k_fieldAddre rfl rfl rfl rfl ?_ | (refine k_addi rfl rfl rfl ?_ ?_; (omega)) | (refine k_lssT rfl rfl rfl ?_ ?_; (omega)) | (refine k_lssF rfl rfl rfl ?_ ?_; (omega)) | refine W_yes rfl ?_ | refine W_no rfl ?_)
  (first | with_reducible refine q_endr ?_ | with_reducible refine q_endn ?_); refine rets1 Try.results12 (by first | exact RetV.tmp _ _ rfl | exact RetV.cell _ _ _ _ _ _ _ _ inferInstance rfl rfl rfl) ?_
  rfl
set_option maxHeartbeats 16000000 in
theorem gateTells_ok : Pur Try.prog 14 [] (.bool true) := by
  have hg := gateOf_ok 0 0 0 ⟨#[]⟩
  have hs := gof_start 0 0
  have ho := Offer_ok (gofG 0 0) hs.ok 1 1 0 (by decide) (by decide) (by decide) _ rfl
  have ho := pur_upl ho (.cons ((gofG 0 0).ups0 hs) (.cons (.refl _) (.cons (.refl _) (.cons (.refl _) .nil))))
  rw [off_new (gofG 0 0) ⟨1, 1, 0, (gofG 0 0).now⟩ (fun q hq => absurd hq List.not_mem_nil) (by decide), show (gofG 0 0).fits ⟨1, 1, 0, (gofG 0 0).now⟩ = true from by decide, if_pos rfl] at ho
  refine pur_intro Try.func14 rfl Try.ntmps14 rfl (by first | rfl | assumption | exact bs_cl _) fun B => ?_
  repeat (first | with_reducible (first | refine W_seq ?_ | refine q_then ?_ | refine q_thenr ?_ | refine q_thenx ?_ | refine W_block ?_ | refine q_block ?_ | refine q_blockr ?_ | refine q_blockx ?_ | refine W_ret ?_ | refine W_skip ?_ | refine W_label ?_ | refine W_exit ?_ | refine W_scope ?_ | refine q_scope ?_ | refine q_scoper ?_ | refine q_scopex ?_) | (with_reducible refine R_nil ?_; try dsimp only [slots0, slots_ud, cells_U, agg_ud, drop0, dropS, takeS, take0, ud_nil, take_ud, take_ud0, drop_ud, drop_ud0, take_udk, D.cells, D.fz, D.fzs, List.take_succ_cons, List.take_zero, List.drop_succ_cons, List.drop_zero, List.cons_append, List.nil_append, List.append_eq, List.length_cons, List.length_nil, Nat.reduceAdd, Nat.reduceMul, Nat.reduceSub, Int.reduceAdd, Int.reduceSub, Int.reduceToNat, Int.reduceNeg, Int.reduceMul]) | refine q_blocky rfl ?_ | refine W_plain rfl ?_ | refine W_drawn mixed rfl ?_ | refine and_chk (by kernel_rfl) ?_ | refine k_move rfl rfl ?_ | refine k_assign rfl rfl ?_ | refine k_alloc rfl ?_ | refine k_store rfl rfl rfl rfl rfl rfl rfl ?_ | refine k_extract rfl rfl rfl ?_ | refine k_build rfl rfl rfl ?_ | refine k_call rfl hg rfl rfl rfl rfl ?_ | refine k_call rfl ho rfl rfl rfl rfl ?_ | (refine k_append rfl rfl rfl ?_ ?_ ?_ rfl ?_ rfl rfl rfl ?_; (first | rfl | exact trivial | (show 0 < _; omega)); (first | rfl | (simp <;> omega)); (first | rfl | (simp <;> omega)); (omega)) | (refine k_slice rfl rfl rfl rfl ⟨?_, ?_, ?_⟩ rfl rfl rfl ?_; (omega); (omega); (omega)) | (refine k_slice3 rfl rfl rfl rfl rfl ⟨?_, ?_, ?_⟩ rfl rfl rfl ?_; (omega); (omega); (omega)) | (refine k_sliceA rfl rfl rfl rfl ⟨?_, ?_, ?_, ?_⟩ rfl rfl ?_; (omega); (omega); (omega); (omega)) | (refine k_sliceE rfl rfl rfl rfl ⟨?_, ?_, ?_, ?_⟩ rfl rfl rfl rfl ?_; (omega); (omega); (omega); (omega)) | refine k_pickT rfl rfl rfl ?_ | refine k_pickF rfl rfl rfl ?_ | (refine k_eqlT rfl rfl rfl ?_ ?_; (omega)) | (refine k_eqlF rfl rfl rfl ?_ ?_; (omega)) | refine k_eqa rfl rfl rfl rfl rfl rfl ?_ | refine k_skip rfl ?_ | refine k_skip0 rfl ?_ | refine k_pick rfl rfl rfl rfl rfl ?_ | refine W_yes rfl ?_ | refine W_no rfl ?_)
  (first | with_reducible refine q_endr ?_ | with_reducible refine q_endn ?_); refine rets1 Try.results14 (by first | exact RetV.tmp _ _ rfl | exact RetV.cell _ _ _ _ _ _ _ _ inferInstance rfl rfl rfl) ?_
  rfl
end Go.Proofs.Ytnlacdclnhoghaa
