/- LoadBack: a load is read as it was written; cut, it is none, but for the bytes behind a transfer. No conditions. -/
import Derived.Test.YtbpaimfnfigjpaaLoad19
import Derived.Test.YtbpaimfnfigjpaaGg
import Derived.HandedShaped
namespace Go.Proofs.Ytbpaimfnfigjpaa.loadBack
open Go.ChangeShapes Go.WideShapes Go.RowKit Go.Joins Go.Lib Go.IntWalk
set_option linter.unusedVariables false
open Go.Proofs.Ytbpaimfnfigjpaa
set_option maxRecDepth 100000

theorem loadOf_any (kind : Int) (x y : RawT) (l : List RawT) : LoadIs kind x y l := by
  have h : kind % 4 = 0 ∨ kind % 4 = 1 ∨ kind % 4 = 2 ∨ kind % 4 = 3 := by omega
  rcases h with h | h | h | h
  · exact loadOf_0 kind x y l h
  · exact loadOf_1 kind x y l h
  · exact loadOf_2 kind x y l h
  · exact loadOf_3 kind x y l h
set_option maxHeartbeats 16000000 in
theorem pur (kind xk xa xb yk ya yb at_ : Int) (xs ys : ByteArray) (l : List RawT) : Pur Try.prog 5 [.int .i64 kind, .agg [.int .i64 xk, .int .i64 xa, .int .i64 xb, .str xs], .agg [.int .i64 yk, .int .i64 ya, .int .i64 yb, .str ys], .slice .frozen l.length (rws l), .int .i64 at_] (.bool true) := by
  obtain ⟨A, dn, ⟨b, X, b1, b2, a1, a2, a3, x1, x2, x3, ⟨tk, z, hdt⟩, hC, hE, hD, hS, hcut⟩, hlo⟩ := loadOf_any kind ⟨xk, xa, xb, xs⟩ ⟨yk, ya, yb, ys⟩ l
  replace hlo : Pur Try.prog 12 [.int .i64 kind, .agg [.int .i64 xk, .int .i64 xa, .int .i64 xb, .str xs], .agg [.int .i64 yk, .int .i64 ya, .int .i64 yb, .str ys], .slice .frozen l.length (rws l)] (.agg A) := hlo
  obtain ⟨no, hno⟩ : ∃ no, b.length = no := ⟨_, rfl⟩
  obtain ⟨H, hH⟩ : ∃ H, no - dn = H := ⟨_, rfl⟩
  rw [hno] at b1 b2 hE hD hcut
  rw [hH] at hcut
  obtain ⟨c, ec, hc⟩ := mod_nat at_ H (by omega)
  have hcu := hcut c hc
  have pk := p_picked at_ H c (by omega) (by omega) ec
  have hmax : max (H : Int) 1 = H := by omega
  have hsubw : IntKind.i64.wrap ((no : Int) - (dn : Int)) = H := by rw [show (no : Int) - (dn : Int) = H by omega]; exact i64_in _ (by omega)
  have hsl : ((bs b).drop ((0 : Int).toNat * 1)).take (c * 1) = bs (b.take c) := by
    rw [show (0 : Int).toNat * 1 = 0 from rfl, List.drop_zero, Nat.mul_one]; unfold bs; rw [List.map_take]
  have hbo : no * 1 = (bs b).length := by rw [bs_len, hno]; omega
  have hk0 : ((c : Int) - 0).toNat = c := by omega
  have cA := cut_80 A a1
  have cX := cut_80 X x1
  have lA := lay_80 A a1
  have lX := lay_80 X x1
  have f1 : D.fzs [D.agg A] = [D.agg A] := by show [D.agg (D.fzs A)] = _; rw [a2]
  have k1 : D.cls [D.agg A] = true := by show (D.cls A && true) = true; rw [a3]; rfl
  have k1' : (D.agg A).cl = true := a3
  have f2 : D.fzs [D.agg A, D.agg X] = [D.agg A, D.agg X] := by show [D.agg (D.fzs A), D.agg (D.fzs X)] = _; rw [a2, x2]
  have k2 : D.cls [D.agg A, D.agg X] = true := by show (D.cls A && (D.cls X && true)) = true; rw [a3, x3]; rfl
  have t2 : D.cl (.tup [.agg X, .int .i64 0]) = true := by show (D.cls X && true) = true; rw [x3]; rfl
  have t0 : D.cl (.tup [.agg ld0, .int .i64 4]) = true := by show (D.cls ld0 && true) = true; rw [ld0_cl]; rfl
  have z1 := ld0_len
  have z2 := lay_80 _ z1
  generalize bs b = zb at *
  generalize bs (b.take c) = zc at *
  generalize ld0 = Q at *
  refine pur_intro Try.func5 rfl Try.ntmps5 rfl (by first | rfl | assumption | exact bs_cl _) fun B => ?_
  repeat (first | with_reducible (first | refine W_seq ?_ | refine q_then ?_ | refine q_thenr ?_ | refine q_thenx ?_ | refine W_block ?_ | refine q_block ?_ | refine q_blockr ?_ | refine q_blockx ?_ | refine W_ret ?_ | refine W_skip ?_ | refine W_label ?_ | refine W_exit ?_ | refine W_scope ?_ | refine q_scope ?_ | refine q_scoper ?_ | refine q_scopex ?_) | (with_reducible refine R_nil ?_; try dsimp only [slots0, slots_ud, cells_U, agg_ud, drop0, dropS, takeS, take0, ud_nil, take_ud, take_ud0, drop_ud, drop_ud0, take_udk, D.cells, D.fz, D.fzs, List.take_succ_cons, List.take_zero, List.drop_succ_cons, List.drop_zero, List.cons_append, List.nil_append, List.append_eq, List.length_cons, List.length_nil, Nat.reduceAdd, Nat.reduceMul, Nat.reduceSub, Int.reduceAdd, Int.reduceSub, Int.reduceToNat, Int.reduceNeg, Int.reduceMul]) | refine q_blocky rfl ?_ | refine W_plain rfl ?_ | refine W_drawn mixed rfl ?_ | refine and_chk (by kernel_rfl) ?_ | refine k_load rfl rfl rfl (raw_4 xk xa xb xs _) ?_ | refine k_load rfl rfl rfl (raw_4 yk ya yb ys _) ?_ | refine k_store rfl rfl rfl rfl (by exact a1) rfl (by exact lA _ rfl) ?_ | refine k_load rfl rfl rfl (cA _) ?_ | refine k_load rfl rfl rfl (cX _) ?_ | refine k_store rfl rfl rfl rfl (by exact x1) rfl (by exact lX _ rfl) ?_ | refine k_load rfl rfl rfl (hdt _) ?_ | refine k_sub rfl rfl rfl hsubw ?_ | (refine k_slice rfl rfl rfl rfl ⟨?_, ?_, ?_⟩ (by exact hbo) (by exact hk0) (by exact hsl) ?_; (omega); (omega); (omega)) | refine k_store rfl rfl rfl rfl (by exact z1) rfl (by exact z2 _ rfl) ?_ | refine k_move rfl rfl ?_ | refine k_assign rfl rfl ?_ | refine k_load rfl rfl rfl rfl ?_ | refine k_alloc rfl ?_ | refine k_box rfl rfl rfl ?_ | refine k_store rfl rfl rfl rfl rfl rfl rfl ?_ | refine k_extract rfl rfl rfl ?_ | refine k_fieldAddr rfl rfl rfl ?_ | refine k_call rfl hlo rfl rfl rfl k1' ?_ | refine k_call rfl hE rfl f1 k1 rfl ?_ | refine k_call rfl hD rfl rfl rfl t2 ?_ | refine k_max rfl rfl rfl hmax ?_ | refine k_call rfl pk rfl rfl rfl rfl ?_ | refine k_call rfl hcu rfl rfl rfl t0 ?_ | refine k_call rfl hC rfl f1 k1 rfl ?_ | refine k_call rfl hS rfl f2 k2 rfl ?_ | (refine k_append rfl rfl rfl ?_ ?_ ?_ rfl ?_ rfl rfl rfl ?_; (first | rfl | exact trivial | (show 0 < _; omega)); (first | rfl | (simp <;> omega)); (first | rfl | (simp <;> omega)); (omega)) | (refine k_slice rfl rfl rfl rfl ⟨?_, ?_, ?_⟩ rfl rfl rfl ?_; (omega); (omega); (omega)) | (refine k_slice3 rfl rfl rfl rfl rfl ⟨?_, ?_, ?_⟩ rfl rfl rfl ?_; (omega); (omega); (omega)) | (refine k_sliceA rfl rfl rfl rfl ⟨?_, ?_, ?_, ?_⟩ rfl rfl ?_; (omega); (omega); (omega); (omega)) | (refine k_sliceE rfl rfl rfl rfl ⟨?_, ?_, ?_, ?_⟩ rfl rfl rfl rfl ?_; (omega); (omega); (omega); (omega)) | refine k_loade rfl rfl rfl ?_ | refine k_fieldAddre rfl rfl rfl rfl ?_ | refine k_len rfl rfl ?_ | refine k_pickT rfl rfl rfl ?_ | refine k_pickF rfl rfl rfl ?_ | (refine k_subi rfl rfl rfl ?_ ?_; (omega)) | (refine k_eqlT rfl rfl rfl ?_ ?_; (omega)) | (refine k_eqlF rfl rfl rfl ?_ ?_; (omega)) | refine k_eqa rfl rfl rfl rfl rfl rfl ?_ | refine k_skip rfl ?_ | refine k_skip0 rfl ?_ | refine k_pick rfl rfl rfl rfl rfl ?_ | refine W_yes rfl ?_ | refine W_no rfl ?_)
  (first | with_reducible refine q_endr ?_ | with_reducible refine q_endn ?_); refine rets1 Try.results5 (by first | exact RetV.tmp _ _ rfl | exact RetV.cell _ _ _ _ _ _ _ _ inferInstance rfl rfl rfl) ?_
  rfl
theorem walk {w : World} {v : Value} (l : List RawT) (hok : ∀ x ∈ l, x.ok) (hr : Rep (bare (allhw w)) w (.slice .frozen l.length (rws l)) v) (kind xk xa xb yk ya yb at_ : Int) (xs ys : ByteArray) : Calls Try.prog 5 #[.int .i64 kind, .agg #[.int .i64 xk, .int .i64 xa, .int .i64 xb, .string xs], .agg #[.int .i64 yk, .int .i64 ya, .int .i64 yb, .string ys], v, .int .i64 at_] w fun e w' => e = .returned (.bool true) ∧ New w w' :=
  calls_of_purS (pur kind xk xa xb yk ya yb at_ xs ys l) (.cons (.int _ _) (.cons (rep_raw _ _ _ _ _ _) (.cons (rep_raw _ _ _ _ _ _) (.cons hr (.cons (.int _ _) .nil)))))

set_option maxRecDepth 100000 in
theorem lifted (os : Os) (started : os.Started) (H : Type) (enc : TypeId × Value → H) :
    ReturnsInHanded {} Try.checked os 5 .any (Rows.loadBackSpec.pre6 enc Try.prog Try.f5 Rows.loadBackRow.domain false) (Rows.loadBackSpec.post enc Try.prog Try.f5 false true false false) := by
  refine returnsInHanded_of_change (C := Try.checked) own started (by kernel_rfl) Try.func5
    (ChangeSpec.witness6 (enc := enc) (C := Try.checked) false ⟨#[], #[.int .i64 0, .agg #[.int .i64 0, .int .i64 0, .int .i64 0, .string ⟨#[]⟩], .agg #[.int .i64 0, .int .i64 0, .int .i64 0, .string ⟨#[]⟩], .slice none 0 0, .int .i64 0], []⟩ 8 (by kernel_rfl) (by kernel_rfl) (by kernel_rfl) (by kernel_rfl)) ?_
  intro W base args ds gs before hval0 hW hcnd _
  have hval : ∀ (j : Nat) t v, Try.f5.params[j]? = some t → args[j]? = some v → Value.okWide Try.prog W .any base t v := hval0
  have hW' := hW
  obtain ⟨p, q, hA0, hV, rfl, hfz, hnd⟩ := hW
  have hA : DataW.TrodAll enc Try.prog W 0 (fun _ => true) true Try.f5.params.toList args.toList ds p := hA0
  rw [Try.params5] at hA hval
  obtain ⟨v0, vs0, d0, ds0, p0, q0, hargs, rfl, rfl, h0, r0⟩ := trodAll_cons hA
  obtain ⟨v1, vs1, d1, ds1, p1, q1, rfl, rfl, rfl, h1, r1⟩ := trodAll_cons r0
  obtain ⟨v2, vs2, d2, ds2, p2, q2, rfl, rfl, rfl, h2, r2⟩ := trodAll_cons r1
  obtain ⟨v3, vs3, d3, ds3, p3, q3, rfl, rfl, rfl, h3, r3⟩ := trodAll_cons r2
  obtain ⟨v4, vs4, d4, ds4, p4, q4, rfl, rfl, rfl, h4, r4⟩ := trodAll_cons r3
  obtain ⟨rfl, rfl, rfl⟩ := trodAll_nil r4
  obtain rfl : args = #[v0, v1, v2, v3, v4] := by cases args; simp_all
  obtain ⟨rfl, rfl⟩ := trodVars_none hV
  obtain ⟨n1, rfl, rfl, rfl, wn1⟩ := open_int Try.underlying3 (hval 0 3 v0 rfl rfl) h0
  obtain ⟨k2, a2, b2, s2, rfl, wk2, wa2, wb2, ws2⟩ := open_raw (hval 1 24 v1 rfl rfl) h1
  obtain ⟨k3, a3, b3, s3, rfl, wk3, wa3, wb3, ws3⟩ := open_raw (hval 2 24 v2 rfl rfl) h2
  obtain ⟨l4, wl4, hl4⟩ := open_raws (hval 3 22 v3 rfl rfl) h3
  obtain ⟨n5, rfl, rfl, rfl, wn5⟩ := open_int Try.underlying3 (hval 4 3 v4 rfl rfl) h4
  refine (walk l4 wl4 hl4 n1 k2 a2 b2 k3 a3 b3 n5 s2 s3).mono fun e W' ⟨he, hN⟩ => ?_
  subst he
  exact ⟨_, rfl, law_post laidOut (by kernel_rfl) (by kernel_rfl) Try.underlying4 rfl hW' rfl hN⟩

theorem holds : Rows.LoadBackSaid :=
  OpenClaim.holds_of_wide 5 Try.f5 rfl rfl rfl rfl rfl rfl rfl ⟨rfl, rfl, rfl, rfl, rfl⟩ rfl rfl rfl rfl rfl (by kernel_rfl) Try.func5 (by kernel_rfl)
    (of_decide_eq_true (by kernel_rfl)) (by unfold Func.isWrapper; first | (rw [if_pos (by decide +kernel)]; kernel_rfl) | (rw [if_neg (by decide +kernel)]; exact ⟨rfl, rfl⟩))
    (fun os started H enc _ => lifted os started H enc)

#print axioms holds
end Go.Proofs.Ytbpaimfnfigjpaa.loadBack
