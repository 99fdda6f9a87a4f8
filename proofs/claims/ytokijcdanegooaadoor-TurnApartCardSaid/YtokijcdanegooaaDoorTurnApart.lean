/- TurnApart: two sponges that differ differ still when they are turned. Conditions: none but what the card says of the tables. -/
import Derived.Test.YtokijcdanegooaaDoorKec1
import Derived.Test.YtokijcdanegooaaDoorKecN
import Derived.Test.YtokijcdanegooaaDoorPickP
import Derived.Test.YtokijcdanegooaaDoorRowD
import Derived.Test.YtokijcdanegooaaDoorRowB
namespace Go.Proofs.YtokijcdanegooaaDoor.turnApart
open Go.ChangeShapes Go.WideShapes Go.RowKit Go.Joins Go.Lib Go.IntWalk
set_option linter.unusedVariables false
open Go.Proofs.YtokijcdanegooaaDoor Go.Proofs.YtokijcdanegooaaDoor.Kec
set_option maxRecDepth 100000
--nrm arr_len arr_cls arr_fzs arr_bels

theorem wv_inj {x y : Kec.W} (h : wv x = wv y) : x = y := by
  unfold wv at h
  exact BitVec.eq_of_toNat_eq (by omega)
theorem deqs_map (f g : S) : ∀ l : List Nat, deqs (l.map fun j => D.int .u64 (wv (f j))) (l.map fun j => D.int .u64 (wv (g j))) = true ↔ ∀ j ∈ l, f j = g j
  | [] => by simp [deqs]
  | j :: l => by
    have ih := deqs_map f g l
    show (deq1 (.int .u64 (wv (f j))) (.int .u64 (wv (g j))) && deqs _ _) = true ↔ _
    rw [Bool.and_eq_true, ih]
    simp only [deq1, List.mem_cons, forall_eq_or_imp]
    constructor
    · rintro ⟨h1, h2⟩; exact ⟨wv_inj (by simpa using h1), h2⟩
    · rintro ⟨h1, h2⟩; exact ⟨by simp [h1], h2⟩
theorem deqs_yes {f g : S} (h : Eq25 f g) : deqs (arr f 25) (arr g 25) = true := (deqs_map f g _).2 fun j hj => h j (List.mem_range.1 hj)
theorem deqs_no {f g : S} (h : ¬ Eq25 f g) : deqs (arr f 25) (arr g 25) = false := by
  rw [← Bool.not_eq_true]
  exact fun e => h fun j hj => (deqs_map f g _).1 e j (List.mem_range.2 hj)
theorem conv_wv (n : Int) : IntKind.u64.wrap n = wv (BitVec.ofInt 64 n) := by
  unfold wv
  rw [IntKind.wrap_u64, BitVec.toNat_ofInt]
  omega
theorem konsN_eq : kons.map (·.toNat) = konsN := by decide +kernel
theorem zero_turned : ¬ Eq25 (turn kons fun _ => 0) (fun _ => 0) := fun h => by
  have t0 : Tells 0 (fun _ => 0) := fun j _ => by unfold ln; simp
  have t1 := tells_turn kons t0 0 (by decide)
  rw [konsN_eq, h 0 (by decide)] at t1
  exact absurd t1 (by decide +kernel)
theorem b_eqb (c : Bool) : (c == c) = true := by cases c <;> rfl
theorem arr_fz1' (f : S) (n : Nat) : D.fzs [D.agg (arr f n)] = [D.agg (arr f n)] := by
  show [D.agg (D.fzs (arr f n))] = _
  rw [arr_fzs]
theorem arr_cl1' (f : S) (n : Nat) : D.cls [D.agg (arr f n)] = true := by
  show (D.cls (arr f n) && true) = true
  rw [arr_cls]; rfl
theorem zb : (some (List.replicate 25 (D.int .u64 0)) : Option (List D)) = some (arr (fun _ => 0) 25) := rfl
theorem lks_arr (f : S) : lks (arr f 25) = some (List.replicate 25 (.int .u64)) := rfl

set_option maxHeartbeats 8000000 in
theorem pur_at (F : S) (n m : Int) (k : Nat) (hk : k < 25) (hn : n % 25 = k) : Pur Tryd.prog 4 [.agg (arr F 25), .int .i64 n, .int .i64 m] (.bool true) := by
  have pk := p_picked n 25 k (by omega) (by omega) hn
  have hcv := conv_wv m
  generalize BitVec.ofInt 64 m = y at *
  have hx := xor_wv (F k) y
  have hc := arr_cut F 25 k hk
  have hp := arr_put F 25 k hk (F k ^^^ y)
  obtain ⟨G, hG⟩ : ∃ G, upd F k (F k ^^^ y) = G := ⟨_, rfl⟩
  rw [hG] at hp
  have t1 := Turn_ok F
  have t2 := Turn_ok G
  have t0 : Pur Tryd.prog 10 [.agg (arr (fun _ => 0) 25)] (.agg (arr (turn kons fun _ => 0) 25)) := Turn_ok fun _ => 0
  have d0 := deqs_no zero_turned
  obtain ⟨c, hc1, hc2⟩ : ∃ c, deqs (arr F 25) (arr G 25) = c ∧ deqs (arr (turn kons F) 25) (arr (turn kons G) 25) = c := by
    by_cases e : Eq25 F G
    · exact ⟨true, deqs_yes e, deqs_yes (turn_eq kons e)⟩
    · exact ⟨false, deqs_no e, deqs_no fun h => e (turn_inj kons h)⟩
  have d0' : (!deqs (arr (turn kons fun _ => 0) 25) (arr (fun _ => 0) 25)) = true := by rw [d0]; rfl
  generalize (turn kons fun _ => 0) = T0 at *
  generalize turn kons F = TF at *
  generalize turn kons G = TG at *
  have hlF := arr_lay F 25
  have hsq := b_eqb c
  refine pur_intro Tryd.func4 rfl Tryd.ntmps4 rfl (by first | rfl | assumption | exact bs_cl _) fun B => ?_
  repeat (first | with_reducible refine W_seq ?_ | with_reducible refine q_then ?_ | with_reducible refine q_thenr ?_ | with_reducible refine q_thenx ?_ | with_reducible refine W_block ?_ | with_reducible refine q_block ?_ | with_reducible refine q_blockr ?_ | with_reducible refine q_blockx ?_ | with_reducible refine W_ret ?_ | with_reducible refine W_skip ?_ | with_reducible refine W_label ?_ | with_reducible refine W_exit ?_ | with_reducible refine W_scope ?_ | with_reducible refine q_scope ?_ | with_reducible refine q_scoper ?_ | with_reducible refine q_scopex ?_ | (with_reducible refine R_nil ?_; try dsimp only [slots0, slots_ud, arr_len, arr_cls, arr_fzs, arr_bels, cells_U, agg_ud, drop0, dropS, takeS, take0, ud_nil, take_ud, take_ud0, drop_ud, drop_ud0, take_udk, D.cells, D.fz, D.fzs, List.take_succ_cons, List.take_zero, List.drop_succ_cons, List.drop_zero, List.cons_append, List.nil_append, List.append_eq, List.length_cons, List.length_nil, Nat.reduceAdd, Nat.reduceMul, Nat.reduceSub, Int.reduceAdd, Int.reduceSub, Int.reduceToNat, Int.reduceNeg, Int.reduceMul]) | refine q_blocky rfl ?_ | refine W_plain rfl ?_ | refine W_drawn mixed rfl ?_ | refine and_chk (by kernel_rfl) ?_ | refine k_load rfl rfl rfl (by exact arr_whole _ _ _) ?_ | refine k_load rfl rfl rfl (by exact hc) ?_ | refine k_store rfl rfl rfl rfl (arr_len _ _) rfl (by exact hlF _ rfl) ?_ | refine k_store rfl rfl rfl rfl rfl rfl (by exact hp) ?_ | refine k_build rfl rfl (by exact zb) ?_ | refine k_move rfl rfl ?_ | refine k_assign rfl rfl ?_ | refine k_load rfl rfl rfl rfl ?_ | refine k_alloc rfl ?_ | refine k_box rfl rfl rfl ?_ | refine k_store rfl rfl rfl rfl rfl rfl rfl ?_ | refine k_extract rfl rfl rfl ?_ | refine k_fieldAddr rfl rfl rfl ?_ | refine k_field rfl rfl rfl ?_ | refine k_build rfl rfl rfl ?_ | refine k_call rfl pk rfl rfl rfl rfl ?_ | refine k_conv rfl rfl hcv ?_ | refine k_bits rfl rfl rfl rfl hx ?_ | refine k_call rfl t1 rfl (arr_fz1' _ _) (arr_cl1' _ _) (arr_cls _ _) ?_ | refine k_call rfl t2 rfl (arr_fz1' _ _) (arr_cl1' _ _) (arr_cls _ _) ?_ | refine k_eqa rfl rfl rfl (lks_arr _) (lks_arr _) hc2 ?_ | refine k_eqa rfl rfl rfl (lks_arr _) (lks_arr _) hc1 ?_ | refine k_eqb rfl Tryd.underlying4 rfl rfl hsq ?_ | refine k_call rfl t0 rfl (arr_fz1' _ _) (arr_cl1' _ _) (arr_cls _ _) ?_ | refine k_nea rfl rfl rfl (lks_arr _) (lks_arr _) d0' ?_ | refine k_append rfl rfl rfl (by first | rfl | exact trivial | (show 0 < _; omega)) (by first | rfl | (simp <;> omega)) (by first | rfl | (simp <;> omega)) rfl (by omega) rfl rfl rfl ?_ | refine k_slice rfl rfl rfl rfl ⟨by omega, by omega, by omega⟩ rfl rfl rfl ?_ | refine k_slice3 rfl rfl rfl rfl rfl ⟨by omega, by omega, by omega⟩ rfl rfl rfl ?_ | refine k_sliceA rfl rfl rfl rfl ⟨by omega, by omega, by omega, by omega⟩ rfl rfl ?_ | refine k_sliceE rfl rfl rfl rfl ⟨by omega, by omega, by omega, by omega⟩ rfl rfl rfl rfl ?_ | refine k_buildSlice (cs := []) rfl rfl rfl rfl rfl rfl rfl ?_ | refine k_buildSlice rfl rfl rfl rfl rfl rfl rfl ?_ | refine k_indexAddr rfl rfl rfl ⟨by omega, by omega⟩ ?_ | refine k_indexAddrs rfl rfl rfl ⟨by omega, by omega⟩ rfl ?_ | refine k_index rfl rfl rfl ⟨by omega, by omega⟩ rfl ?_ | refine k_loade rfl rfl rfl ?_ | refine k_fieldAddre rfl rfl rfl rfl ?_ | refine k_len rfl rfl ?_ | refine k_nilCheck rfl rfl rfl ?_ | refine k_pickT rfl rfl rfl ?_ | refine k_pickF rfl rfl rfl ?_ | refine k_addi rfl rfl rfl (by omega) ?_ | refine k_subi rfl rfl rfl (by omega) ?_ | refine k_negi rfl rfl (by omega) ?_ | refine k_not rfl rfl rfl ?_ | refine k_lssT rfl rfl rfl (by omega) ?_ | refine k_lssF rfl rfl rfl (by omega) ?_ | refine k_leqT rfl rfl rfl (by omega) ?_ | refine k_leqF rfl rfl rfl (by omega) ?_ | refine k_gtrT rfl rfl rfl (by omega) ?_ | refine k_gtrF rfl rfl rfl (by omega) ?_ | refine k_geqT rfl rfl rfl (by omega) ?_ | refine k_geqF rfl rfl rfl (by omega) ?_ | refine k_eqlT rfl rfl rfl (by omega) ?_ | refine k_eqlF rfl rfl rfl (by omega) ?_ | refine k_neqT rfl rfl rfl (by omega) ?_ | refine k_neqF rfl rfl rfl (by omega) ?_ | refine k_eqa rfl rfl rfl rfl rfl rfl ?_ | refine k_nea rfl rfl rfl rfl rfl rfl ?_ | refine k_makeFunc rfl rfl rfl ?_ | refine k_skip rfl ?_ | refine k_skip0 rfl ?_ | refine k_pick rfl rfl rfl rfl rfl ?_ | refine W_yes rfl ?_ | refine W_no rfl ?_)
  (first | with_reducible refine q_endr ?_ | with_reducible refine q_endn ?_); refine rets1 Tryd.results4 (by first | exact RetV.tmp _ _ rfl | exact RetV.cell _ _ _ _ _ _ _ _ inferInstance rfl rfl rfl) ?_
  rfl
theorem pur (F : S) (n m : Int) : Pur Tryd.prog 4 [.agg (arr F 25), .int .i64 n, .int .i64 m] (.bool true) :=
  pur_at F n m (n % 25).toNat (by omega) (by omega)
theorem walk (F : S) (n m : Int) (w : World) (hG : GTab w []) : Calls Tryd.prog 4 #[.agg ((List.range 25).map fun j => Value.int .u64 ((F j).toNat : Int)).toArray, .int .i64 n, .int .i64 m] w fun e w' => e = .returned (.bool true) ∧ New w w' :=
  calls_of_pur (vs := [.agg ((List.range 25).map fun j => Value.int .u64 ((F j).toNat : Int)).toArray, .int .i64 n, .int .i64 m]) rfl rfl rfl (pur F n m) w hG

set_option maxRecDepth 100000 in
theorem lifted (os : Os) (started : os.Started) (H : Type) (enc : TypeId × Value → H) :
    ReturnsInHanded {} Tryd.checked os 4 .any (fun w args => (Rows.turnApartSpec.pre enc Tryd.prog Tryd.f4 [] false w args ∧ laidMetH Tryd.prog laidL w) ∧ sizedMet enc Tryd.prog Tryd.f4 (OpenSpec.ofChange Rows.turnApartSpec) false w args) (Rows.turnApartSpec.post enc Tryd.prog Tryd.f4 false true false false) := by
  refine returnsInHanded_of_change_and (C := Tryd.checked) (X := fun w _ => laidMetH Tryd.prog laidL w) (fun _ _ _ hh h => h.of_heap hh) own started (by kernel_rfl) Tryd.func4
    (ChangeSpec.witness_shaped (enc := enc) (C := Tryd.checked) (os := os) (X := fun w _ => laidMetH Tryd.prog laidL w) false (World.doorLaid Tryd.prog 400 os) #[.agg #[.int .u64 0, .int .u64 0, .int .u64 0, .int .u64 0, .int .u64 0, .int .u64 0, .int .u64 0, .int .u64 0, .int .u64 0, .int .u64 0, .int .u64 0, .int .u64 0, .int .u64 0, .int .u64 0, .int .u64 0, .int .u64 0, .int .u64 0, .int .u64 0, .int .u64 0, .int .u64 0, .int .u64 0, .int .u64 0, .int .u64 0, .int .u64 0, .int .u64 0], .int .i64 0, .int .i64 0] 8 rfl (World.shaped_of_RefB (by kernel_rfl) (by kernel_rfl)) (by kernel_rfl) (by kernel_rfl) (by kernel_rfl) (door_met os _)) ?_
  intro W base args ds gs before hval0 hW _ _ hL _
  have hG := tabs_of hL
  have hval : ∀ (j : Nat) t v, Tryd.f4.params[j]? = some t → args[j]? = some v → Value.okWide Tryd.prog W .any base t v := hval0
  have hW' := hW
  obtain ⟨p, q, hA0, hV, rfl, hfz, hnd⟩ := hW
  have hA : DataW.TrodAll enc Tryd.prog W 0 (fun _ => true) true Tryd.f4.params.toList args.toList ds p := hA0
  rw [Tryd.params4] at hA hval
  obtain ⟨v0, vs0, d0, ds0, p0, q0, hargs, rfl, rfl, h0, r0⟩ := trodAll_cons hA
  obtain ⟨v1, vs1, d1, ds1, p1, q1, rfl, rfl, rfl, h1, r1⟩ := trodAll_cons r0
  obtain ⟨v2, vs2, d2, ds2, p2, q2, rfl, rfl, rfl, h2, r2⟩ := trodAll_cons r1
  obtain ⟨rfl, rfl, rfl⟩ := trodAll_nil r2
  obtain rfl : args = #[v0, v1, v2] := by cases args; simp_all
  obtain ⟨rfl, rfl⟩ := trodVars_none hV
  obtain ⟨F1, rfl⟩ := open_lanes (hval 0 31 v0 rfl rfl) h0
  obtain ⟨n2, rfl, rfl, rfl, wn2⟩ := open_int Tryd.underlying3 (hval 1 3 v1 rfl rfl) h1
  obtain ⟨n3, rfl, rfl, rfl, wn3⟩ := open_int Tryd.underlying3 (hval 2 3 v2 rfl rfl) h2
  refine (walk F1 n2 n3 W hG).mono fun e W' ⟨he, hN⟩ => ?_
  subst he
  exact ⟨_, rfl, law_post laidOut (by kernel_rfl) (by kernel_rfl) Tryd.underlying4 rfl hW' rfl hN⟩

theorem holds : Rows.TurnApartSaid :=
  OpenClaim.holds_of_wide 4 Tryd.f4 rfl rfl rfl rfl rfl rfl rfl ⟨rfl, rfl, rfl, rfl, rfl⟩ rfl rfl rfl rfl rfl (by kernel_rfl) Tryd.func4 (by kernel_rfl)
    (of_decide_eq_true (by kernel_rfl)) (by unfold Func.isWrapper; first | (rw [if_pos (by decide +kernel)]; kernel_rfl) | (rw [if_neg (by decide +kernel)]; exact ⟨rfl, rfl⟩))
    (fun os started H enc _ => lifted os started H enc)

theorem card : Rows.TurnApartCardSaid :=
  Claim7.holds_tied_plain_at .later [] [.data, .data] true (true, "7cf815d76b0d3a97adafd62661efd760fe23b03e03c35bf17f44aca8dcd2f889") false
    holds (fun _ h => by cases h) (by kernel_rfl) (fun _ h => by cases h) turnApart_row_tie rfl ⟨rfl, rfl⟩ (by kernel_rfl) rfl
    (fun f fn hf hfn => by
      obtain rfl : f = 4 := Option.some.inj ((show Tryd.prog.funcNamed "bascule/basculekeep.TurnApart" = some 4 by kernel_rfl).symm.trans hf) |>.symm
      obtain rfl : fn = Tryd.f4 := (Option.some.inj (Tryd.func4.symm.trans hfn)).symm
      exact ⟨by kernel_rfl, fun j t ht => by
        rw [Tryd.params4] at ht
        have hall : (Tryd.f4.params.all fun u => !Tryd.prog.wantsStandIn u) = true := by kernel_rfl
        have hm := Array.mem_of_getElem? ht
        rw [Tryd.params4] at hall
        exact (show Tryd.prog.wantsStandIn t = false by simpa using Array.all_eq_true_iff_forall_mem.1 hall t hm)⟩)
    (by kernel_rfl)
#print axioms card
end Go.Proofs.YtokijcdanegooaaDoor.turnApart
