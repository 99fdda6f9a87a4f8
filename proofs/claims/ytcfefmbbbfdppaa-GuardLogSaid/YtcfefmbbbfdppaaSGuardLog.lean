/- GuardLog: a guard is what its log says. No conditions. -/
import Derived.Test.YtcfefmbbbfdppaaSGu13
import Derived.Test.YtcfefmbbbfdppaaSGu14
import Derived.Test.YtcfefmbbbfdppaaSRowS
namespace Go.Proofs.Ytcfefmbbbfdppaa.guardLog
open Go.ChangeShapes Go.WideShapes Go.RowKit Go.Joins Go.Lib Go.IntWalk
set_option linter.unusedVariables false
open Go.Proofs.Ytcfefmbbbfdppaa
set_option maxRecDepth 100000
set_option maxHeartbeats 16000000 in
theorem pur (k a b : Int) (s : ByteArray) (l : List RawT) : Pur Try.prog 4 [.agg [.int .i64 k, .int .i64 a, .int .i64 b, .str s], .slice .frozen l.length (rws l)] (.bool true) := by
  have hl : (l.take 14).length ≤ 14 := by rw [List.length_take]; omega
  have hlv := lived_ok k a b s l 14 (by decide)
  have hgt := guardTells_ok
  have hgo := gateOf_ok k a b s
  have hg := gof_start a b
  have hup := GT.ups0 (gofG a b) hg
  have hi := lv_inv (gofG a b) hg (l.take 14) (l.take 14).length (Nat.le_refl _) (by omega)
  obtain ⟨r1, r2, r3⟩ := lv_ran (gofG a b) hg (l.take 14) (l.take 14).length (Nat.le_refl _) (by omega)
  have hsl : ∀ j, j ≤ (l.take 14).length → (stl (l.take 14) j).length = j := by
    intro j
    induction j with
    | zero => intro _; rfl
    | succ j ih => intro hj; rw [stl_step _ j _ (List.getElem?_eq_getElem (by omega)), List.length_append, ih (by omega)]; rfl
  have hsl := hsl _ (Nat.le_refl _)
  generalize lv (gofG a b) (l.take 14) (l.take 14).length = x at *
  generalize stl (l.take 14) (l.take 14).length = st at *
  have hla := hi.la
  have hag := Again_ok (gofG a b) hg.ok st r3 (by omega) x.la (by omega) x.la r2.symm (by omega) (by rw [r2]; exact opn_all _ r3.small) List.take_length (by rw [← r1]; exact hi.bare.ok)
  have hx : GuT.mk (ran (gofG a b) st).f (ran (gofG a b) st).g x.la [] (ran (gofG a b) st).hd (ran (gofG a b) st).dn = x := by
    rw [← r1]
    have := hi.si
    cases x
    simp only [GuT.bare] at *
    rw [this]
  rw [hx] at hag
  have hag0 : Pur Try.prog 11 [u5, .agg (gofG a b).cells0, .agg (lg x.la x.si)] (.tup [.agg x.cells, .int .i64 0]) := by
    rw [hi.si]
    exact pur_ups hag (.cons (.refl _) (.cons hup (.cons (.refl _) .nil)))
  have hsg := sGuard_ok x hi.ok
  clear hag hup hi r1 r2 r3 hx
  generalize gofG a b = g at *
  unfold GT.cells0 at *
  unfold u5 lg at *
  unfold GuT.cells guC bD mD at *
  generalize bdC x.hd = y1 at *
  generalize bdC x.dn = y2 at *
  generalize bs x.la = y3 at *
  generalize bs x.si = y4 at *
  generalize qsC x.f.past = z1 at *
  generalize qsC x.f.queue = z2 at *
  generalize qsC x.g.past = z3 at *
  generalize qsC x.g.queue = z4 at *
  refine pur_intro Try.func4 rfl Try.ntmps4 rfl (by first | rfl | assumption | exact bs_cl _) fun B => ?_
  repeat (first | with_reducible (first | refine W_seq ?_ | refine q_then ?_ | refine W_ret ?_) | (with_reducible refine R_nil ?_; try dsimp only [slots0, slots_ud, cells_U, agg_ud, drop0, dropS, takeS, take0, ud_nil, take_ud, take_ud0, drop_ud, drop_ud0, take_udk, D.cells, D.fz, D.fzs, List.take_succ_cons, List.take_zero, List.drop_succ_cons, List.drop_zero, List.cons_append, List.nil_append, List.append_eq, List.length_cons, List.length_nil, Nat.reduceAdd, Nat.reduceMul, Nat.reduceSub, Int.reduceAdd, Int.reduceSub, Int.reduceToNat, Int.reduceNeg, Int.reduceMul]) | refine W_plain rfl ?_ | refine W_drawn mixed rfl ?_ | refine and_chk (by kernel_rfl) ?_ | refine k_move rfl rfl ?_ | refine k_assign rfl rfl ?_ | refine k_load rfl rfl rfl rfl ?_ | refine k_alloc rfl ?_ | refine k_box rfl rfl rfl ?_ | refine k_store rfl rfl rfl rfl rfl rfl rfl ?_ | refine k_extract rfl rfl rfl ?_ | refine k_fieldAddr rfl rfl rfl ?_ | refine k_build rfl rfl rfl ?_ | refine k_call rfl hlv rfl rfl rfl rfl ?_ | refine k_call rfl hgo rfl rfl rfl rfl ?_ | refine k_call rfl hag0 rfl rfl rfl rfl ?_ | refine k_call rfl hsg rfl rfl rfl rfl ?_ | refine k_call rfl hgt rfl rfl rfl rfl ?_ | (refine k_append rfl rfl rfl ?_ ?_ ?_ rfl ?_ rfl rfl rfl ?_; (first | rfl | exact trivial | (show 0 < _; omega)); (first | rfl | (simp <;> omega)); (first | rfl | (simp <;> omega)); (omega)) | refine k_pickT rfl rfl rfl ?_ | (refine k_eqlT rfl rfl rfl ?_ ?_; (omega)))
  (first | with_reducible refine q_endr ?_); refine rets1 Try.results4 (by first | exact RetV.tmp _ _ rfl | exact RetV.cell _ _ _ _ _ _ _ _ inferInstance rfl rfl rfl) ?_
  rfl
theorem walk {w : World} {v : Value} (l : List RawT) (hok : ∀ x ∈ l, x.ok) (hr : Rep (bare (allhw w)) w (.slice .frozen l.length (rws l)) v) (k a b : Int) (s : ByteArray) : Calls Try.prog 4 #[.agg #[.int .i64 k, .int .i64 a, .int .i64 b, .string s], v] w fun e w' => e = .returned (.bool true) ∧ New w w' :=
  calls_of_purS (pur k a b s l) (.cons (rep_raw _ _ _ _ _ _) (.cons hr .nil))
set_option maxRecDepth 100000 in
theorem lifted (os : Os) (started : os.Started) (H : Type) (enc : TypeId × Value → H) :
    ReturnsInHanded {} Try.checked os 4 .any (Rows.guardLogSpec.pre6 enc Try.prog Try.f4 Rows.guardLogRow.domain false) (Rows.guardLogSpec.post enc Try.prog Try.f4 false true false false) := by
  refine returnsInHanded_of_change (C := Try.checked) own started (by kernel_rfl) Try.func4
    (ChangeSpec.witness6 (enc := enc) (C := Try.checked) false ⟨#[], #[.agg #[.int .i64 0, .int .i64 0, .int .i64 0, .string ⟨#[]⟩], .slice none 0 0], []⟩ 8 (by kernel_rfl) (by kernel_rfl) (by kernel_rfl) (by kernel_rfl)) ?_
  intro W base args ds gs before hval0 hW hcnd _
  have hval : ∀ (j : Nat) t v, Try.f4.params[j]? = some t → args[j]? = some v → Value.okWide Try.prog W .any base t v := hval0
  have hW' := hW
  obtain ⟨p, q, hA0, hV, rfl, hfz, hnd⟩ := hW
  have hA : DataW.TrodAll enc Try.prog W 0 (fun _ => true) true Try.f4.params.toList args.toList ds p := hA0
  rw [Try.params4] at hA hval
  obtain ⟨v0, vs0, d0, ds0, p0, q0, hargs, rfl, rfl, h0, r0⟩ := trodAll_cons hA
  obtain ⟨v1, vs1, d1, ds1, p1, q1, rfl, rfl, rfl, h1, r1⟩ := trodAll_cons r0
  obtain ⟨rfl, rfl, rfl⟩ := trodAll_nil r1
  obtain rfl : args = #[v0, v1] := by cases args; simp_all
  obtain ⟨rfl, rfl⟩ := trodVars_none hV
  obtain ⟨k1, a1, b1, s1, rfl, wk1, wa1, wb1, ws1⟩ := open_raw (hval 0 23 v0 rfl rfl) h0
  obtain ⟨l2, wl2, hl2⟩ := open_raws (hval 1 24 v1 rfl rfl) h1
  refine (walk l2 wl2 hl2 k1 a1 b1 s1).mono fun e W' ⟨he, hN⟩ => ?_
  subst he
  exact ⟨_, rfl, law_post laidOut (by kernel_rfl) (by kernel_rfl) Try.underlying4 rfl hW' rfl hN⟩
theorem holds : Rows.GuardLogSaid :=
  OpenClaim.holds_of_wide 4 Try.f4 rfl rfl rfl rfl rfl rfl rfl ⟨rfl, rfl, rfl, rfl, rfl⟩ rfl rfl rfl rfl rfl (by kernel_rfl) Try.func4 (by kernel_rfl)
    (of_decide_eq_true (by kernel_rfl)) (by unfold Func.isWrapper; first | (rw [if_pos (by decide +kernel)]; kernel_rfl) | (rw [if_neg (by decide +kernel)]; exact ⟨rfl, rfl⟩))
    (fun os started H enc _ => lifted os started H enc)
#print axioms holds
end Go.Proofs.Ytcfefmbbbfdppaa.guardLog
