/- The laws' keys and their comparing of loads. Conditions: as said. -/
import Derived.Test.YtbpaimfnfigjpaaLoad16
import Derived.Test.YtbpaimfnfigjpaaGg
namespace Go.Proofs.Ytbpaimfnfigjpaa
open Go.RowKit Go.Lib Go.IntWalk
set_option linter.unusedVariables false
set_option maxRecDepth 100000
noncomputable def u8c (x : Int) : UInt8 := Classical.choose (u8_of x)
theorem u8c_ok (x : Int) : IntKind.u8.wrap x = (((u8c x).toNat : Nat) : Int) := Classical.choose_spec (u8_of x)
noncomputable def keyI (i : Nat) (r : RawT) : List UInt8 := [UInt8.ofNat i, u8c r.a, u8c r.b, 0, 0, 0, 0, 0, 0, 0, 0, 0, 0, 0, 0, 0, 0, 0, 0, 0]
theorem keyI_snoc (l : List RawT) (j : Nat) (r : RawT) (h : l[j]? = some r) : (l.take (j + 1)).mapIdx keyI = (l.take j).mapIdx keyI ++ [keyI j r] := by
  have hlt := (List.getElem?_eq_some_iff.1 h).1
  rw [List.take_add_one, h, Option.toList_some, List.mapIdx_concat, List.length_take, Nat.min_eq_left (by omega)]
theorem keyI_20 (l : List RawT) : ∀ k ∈ l.mapIdx keyI, k.length = 20 := fun k hk => by
  obtain ⟨i, hi, rfl⟩ := List.mem_mapIdx.1 hk
  rfl
set_option maxHeartbeats 8000000 in
theorem keysOf_ok (l : List RawT) (n : Nat) (hn : (l.take 19).length = n) : Pur Try.prog 30 [.slice .frozen l.length (rws l)] (.slice .frozen n (bs ((l.take 19).mapIdx keyI).flatten)) := by
  have sm := some_ok l 19 (by decide)
  have hl19 : (l.take 19).length ≤ 19 := by rw [List.length_take]; omega
  have hrl := rws_len (l.take 19)
  have hrc := rws_cut (l.take 19)
  generalize l.take 19 = l' at *
  rw [hn] at hrl sm hl19
  obtain ⟨zr, hzr⟩ : ∃ z, rws l' = z := ⟨_, rfl⟩
  rw [hzr] at hrl hrc sm
  have hfl : ∀ j, j ≤ l'.length → ((l'.take j).mapIdx keyI).flatten.length = j * 20 := fun j hj => by
    rw [(keys_at _ (keyI_20 _)).1, List.length_mapIdx, List.length_take, Nat.min_eq_left hj]
  refine pur_intro Try.func30 rfl Try.ntmps30 rfl (by first | rfl | assumption | exact bs_cl _) fun B => ?_
  repeat (first | with_reducible (first | refine W_seq ?_ | refine q_then ?_ | refine q_thenr ?_ | refine q_thenx ?_ | refine W_block ?_ | refine q_block ?_ | refine q_blockr ?_ | refine q_blockx ?_ | refine W_ret ?_ | refine W_skip ?_ | refine W_label ?_ | refine W_exit ?_ | refine W_scope ?_ | refine q_scope ?_ | refine q_scoper ?_ | refine q_scopex ?_) | (with_reducible refine R_nil ?_; try dsimp only [slots0, slots_ud, cells_U, agg_ud, drop0, dropS, takeS, take0, ud_nil, take_ud, take_ud0, drop_ud, drop_ud0, take_udk, D.cells, D.fz, D.fzs, List.take_succ_cons, List.take_zero, List.drop_succ_cons, List.drop_zero, List.cons_append, List.nil_append, List.append_eq, List.length_cons, List.length_nil, Nat.reduceAdd, Nat.reduceMul, Nat.reduceSub, Int.reduceAdd, Int.reduceSub, Int.reduceToNat, Int.reduceNeg, Int.reduceMul]) | refine q_blocky rfl ?_ | refine W_plain rfl ?_ | refine W_drawn mixed rfl ?_ | refine and_chk (by kernel_rfl) ?_ | refine k_move rfl rfl ?_ | refine k_assign rfl rfl ?_ | refine k_load rfl rfl rfl rfl ?_ | refine k_alloc rfl ?_ | refine k_store rfl rfl rfl rfl rfl rfl rfl ?_ | refine k_fieldAddr rfl rfl rfl ?_ | refine k_build rfl rfl rfl ?_ | refine k_call rfl sm rfl rfl rfl rfl ?_ | (refine k_append rfl rfl rfl ?_ ?_ ?_ rfl ?_ rfl rfl rfl ?_; (first | rfl | exact trivial | (show 0 < _; omega)); (first | rfl | (simp <;> omega)); (first | rfl | (simp <;> omega)); (omega)) | (refine k_slice rfl rfl rfl rfl ⟨?_, ?_, ?_⟩ rfl rfl rfl ?_; (omega); (omega); (omega)) | (refine k_slice3 rfl rfl rfl rfl rfl ⟨?_, ?_, ?_⟩ rfl rfl rfl ?_; (omega); (omega); (omega)) | (refine k_sliceA rfl rfl rfl rfl ⟨?_, ?_, ?_, ?_⟩ rfl rfl ?_; (omega); (omega); (omega); (omega)) | (refine k_sliceE rfl rfl rfl rfl ⟨?_, ?_, ?_, ?_⟩ rfl rfl rfl rfl ?_; (omega); (omega); (omega); (omega)) | refine k_buildSlice (cs := []) rfl rfl rfl rfl rfl rfl rfl ?_ | refine k_buildSlice rfl rfl rfl rfl rfl rfl rfl ?_ | (refine k_indexAddr rfl rfl rfl ⟨?_, ?_⟩ ?_; (omega); (omega)) | (refine k_indexAddrs rfl rfl rfl ⟨?_, ?_⟩ rfl ?_; (omega); (omega)) | refine k_loade rfl rfl rfl ?_ | refine k_fieldAddre rfl rfl rfl rfl ?_ | refine k_len rfl rfl ?_ | (refine k_addi rfl rfl rfl ?_ ?_; (omega)) | (refine k_lssT rfl rfl rfl ?_ ?_; (omega)) | (refine k_lssF rfl rfl rfl ?_ ?_; (omega)) | refine W_yes rfl ?_ | refine W_no rfl ?_)
  refine W_of_weak (weak_tok 89 20) ?_
  refine W_loopW (fun n' ρ m nx => ∃ (j : Nat) (z : List D), j ≤ n ∧ z = bs ((l'.take j).mapIdx keyI).flatten ∧ n' = n - j ∧ ρ = [(10, .int .i64 (j : Int)), (9, .int .i64 (n : Int)), (8, .slice .frozen n zr), (3, .slice (.own 0) j z)] ∧ m = [(0, some (.tok 89 20))] ∧ nx = 1)
    ⟨_, _, _, _, (weak_ren (fun l => l) (by repeat (first | exact trivial | refine ⟨⟨_, rfl, (by first | exact Up.refl _ | exact Up.fz _ _ _ | exact Up.nil _ | exact Up.nrs _ | assumption), rfl⟩, ?_⟩)) (by repeat (first | exact trivial | refine ⟨⟨rfl, _, rfl, (by first | exact Ups.refl _ | assumption | ((repeat refine Ups.cons (by first | exact Up.refl _ | exact Up.nil _ | exact Up.fz _ _ _) ?_); exact Ups.nil)), rfl⟩, ?_⟩ | refine ⟨⟨rfl, rfl⟩, ?_⟩ | refine ⟨⟨rfl, _, rfl, bs_ups _ _, bs_lalls _ _⟩, ?_⟩ | refine ⟨⟨rfl, _, rfl, cls_ups _ _ (by assumption), cls_lalls _ _ (by assumption)⟩, ?_⟩)) (by first | decide | simp) (Nat.zero_le _) (fun _ h => absurd h (Nat.not_lt_zero _))), 0, [], Nat.zero_le _, rfl, rfl, rfl, rfl, rfl⟩ ?_
  rintro n' ρ m nx ⟨j, z, hj, hz, rfl, rfl, rfl, rfl⟩
  by_cases hlt : j < n
  · obtain ⟨r, hr⟩ : ∃ r, l'[j]? = some r := ⟨_, List.getElem?_eq_getElem (by omega)⟩
    have hc1 := hrc j r hr
    have h3 := hfl j (by omega)
    have hzz : z ++ bs (keyI j r) = bs ((l'.take (j + 1)).mapIdx keyI).flatten := by
      rw [hz, keyI_snoc l' j r hr, List.flatten_append]; simp [bs]
    have hqz : j * 20 = z.length := by rw [hz, bs_len, h3]
    have hsm : j + 1 ≤ 16777216 := by omega
    have hz20 : 1 * 20 = (bs (keyI j r)).length := rfl
    have v1 := ofNat_w j
    have v2 := u8c_ok r.a
    have v3 := u8c_ok r.b
    have hzl : n * 4 = zr.length := hrl.symm
    generalize hZ : bs ((l'.take (j + 1)).mapIdx keyI).flatten = Z2 at *
    obtain ⟨k, a, b, s⟩ := r
    unfold keyI at hzz
    dsimp only at *
    replace hc1 : ∀ ze, cut ⟨true, 4, ze⟩ 0 (zr.drop ((j : Int).toNat * 4)) = some (.agg [.int .i64 k, .int .i64 a, .int .i64 b, .str s]) := hc1
    generalize u8c a = A at *
    generalize u8c b = B at *
    generalize UInt8.ofNat j = J at *
    repeat (first | with_reducible (first | refine W_seq ?_ | refine q_then ?_ | refine q_thenr ?_ | refine q_thenx ?_ | refine W_block ?_ | refine q_block ?_ | refine q_blockr ?_ | refine q_blockx ?_ | refine W_ret ?_ | refine W_skip ?_ | refine W_label ?_ | refine W_exit ?_ | refine W_scope ?_ | refine q_scope ?_ | refine q_scoper ?_ | refine q_scopex ?_) | (with_reducible refine R_nil ?_; try dsimp only [slots0, slots_ud, cells_U, agg_ud, drop0, dropS, takeS, take0, ud_nil, take_ud, take_ud0, drop_ud, drop_ud0, take_udk, D.cells, D.fz, D.fzs, List.take_succ_cons, List.take_zero, List.drop_succ_cons, List.drop_zero, List.cons_append, List.nil_append, List.append_eq, List.length_cons, List.length_nil, Nat.reduceAdd, Nat.reduceMul, Nat.reduceSub, Int.reduceAdd, Int.reduceSub, Int.reduceToNat, Int.reduceNeg, Int.reduceMul]) | refine q_blocky rfl ?_ | refine W_plain rfl ?_ | refine W_drawn mixed rfl ?_ | refine and_chk (by kernel_rfl) ?_ | (refine k_indexAddrs rfl rfl rfl ⟨?_, ?_⟩ hzl ?_; (omega); (omega)) | refine k_loade rfl rfl (hc1 _) ?_ | (refine k_append rfl rfl rfl ?_ hqz rfl rfl hsm rfl rfl (by exact hzz) ?_; (rfl)) | refine k_move rfl rfl ?_ | refine k_assign rfl rfl ?_ | refine k_load rfl rfl rfl rfl ?_ | refine k_alloc rfl ?_ | refine k_store rfl rfl rfl rfl rfl rfl rfl ?_ | refine k_fieldAddr rfl rfl rfl ?_ | refine k_build rfl rfl rfl ?_ | refine k_conv rfl rfl v1 ?_ | refine k_conv rfl rfl v2 ?_ | refine k_conv rfl rfl v3 ?_ | (refine k_append rfl rfl rfl ?_ ?_ ?_ rfl ?_ rfl rfl rfl ?_; (first | rfl | exact trivial | (show 0 < _; omega)); (first | rfl | (simp <;> omega)); (first | rfl | (simp <;> omega)); (omega)) | (refine k_slice rfl rfl rfl rfl ⟨?_, ?_, ?_⟩ rfl rfl rfl ?_; (omega); (omega); (omega)) | (refine k_slice3 rfl rfl rfl rfl rfl ⟨?_, ?_, ?_⟩ rfl rfl rfl ?_; (omega); (omega); (omega)) | (refine k_sliceA rfl rfl rfl rfl ⟨?_, ?_, ?_, ?_⟩ rfl rfl ?_; (omega); (omega); (omega); (omega)) | (refine k_sliceE rfl rfl rfl rfl ⟨?_, ?_, ?_, ?_⟩ rfl rfl rfl rfl ?_; (omega); (omega); (omega); (omega)) | refine k_buildSlice (cs := []) rfl rfl rfl rfl rfl rfl rfl ?_ | refine k_buildSlice rfl rfl rfl rfl rfl rfl rfl ?_ | (refine k_indexAddr rfl rfl rfl ⟨?_, ?_⟩ ?_; (omega); (omega)) | (refine k_indexAddrs rfl rfl rfl ⟨?_, ?_⟩ rfl ?_; (omega); (omega)) | refine k_loade rfl rfl rfl ?_ | refine k_fieldAddre rfl rfl rfl rfl ?_ | refine k_len rfl rfl ?_ | (refine k_addi rfl rfl rfl ?_ ?_; (omega)) | (refine k_lssT rfl rfl rfl ?_ ?_; (omega)) | (refine k_lssF rfl rfl rfl ?_ ?_; (omega)) | refine W_yes rfl ?_ | refine W_no rfl ?_)
    subst hZ
    exact ⟨n - (j + 1), _, _, _, (weak_ren (fun l => if l = 0 then 4 else l) (by repeat (first | exact trivial | refine ⟨⟨_, rfl, (by first | exact Up.refl _ | exact Up.fz _ _ _ | exact Up.nil _ | exact Up.nrs _ | assumption), rfl⟩, ?_⟩)) (by repeat (first | exact trivial | refine ⟨⟨rfl, _, rfl, (by first | exact Ups.refl _ | assumption | ((repeat refine Ups.cons (by first | exact Up.refl _ | exact Up.nil _ | exact Up.fz _ _ _) ?_); exact Ups.nil)), rfl⟩, ?_⟩ | refine ⟨⟨rfl, rfl⟩, ?_⟩ | refine ⟨⟨rfl, _, rfl, bs_ups _ _, bs_lalls _ _⟩, ?_⟩ | refine ⟨⟨rfl, _, rfl, cls_ups _ _ (by assumption), cls_lalls _ _ (by assumption)⟩, ?_⟩)) (by first | decide | simp) (Nat.zero_le _) (fun _ h => absurd h (Nat.not_lt_zero _))), by omega, j + 1, _, by omega, rfl, rfl, rfl, rfl, rfl⟩
  · have ej : j = n := by omega
    subst ej
    rw [List.take_of_length_le (by omega)] at hz
    subst hz
    repeat (first | with_reducible (first | refine W_seq ?_ | refine q_then ?_ | refine q_thenr ?_ | refine q_thenx ?_ | refine W_block ?_ | refine q_block ?_ | refine q_blockr ?_ | refine q_blockx ?_ | refine W_ret ?_ | refine W_skip ?_ | refine W_label ?_ | refine W_exit ?_ | refine W_scope ?_ | refine q_scope ?_ | refine q_scoper ?_ | refine q_scopex ?_) | (with_reducible refine R_nil ?_; try dsimp only [slots0, slots_ud, cells_U, agg_ud, drop0, dropS, takeS, take0, ud_nil, take_ud, take_ud0, drop_ud, drop_ud0, take_udk, D.cells, D.fz, D.fzs, List.take_succ_cons, List.take_zero, List.drop_succ_cons, List.drop_zero, List.cons_append, List.nil_append, List.append_eq, List.length_cons, List.length_nil, Nat.reduceAdd, Nat.reduceMul, Nat.reduceSub, Int.reduceAdd, Int.reduceSub, Int.reduceToNat, Int.reduceNeg, Int.reduceMul]) | refine q_blocky rfl ?_ | refine W_plain rfl ?_ | refine W_drawn mixed rfl ?_ | refine and_chk (by kernel_rfl) ?_ | refine k_move rfl rfl ?_ | refine k_assign rfl rfl ?_ | refine k_load rfl rfl rfl rfl ?_ | refine k_alloc rfl ?_ | refine k_store rfl rfl rfl rfl rfl rfl rfl ?_ | refine k_fieldAddr rfl rfl rfl ?_ | refine k_build rfl rfl rfl ?_ | (refine k_append rfl rfl rfl ?_ ?_ ?_ rfl ?_ rfl rfl rfl ?_; (first | rfl | exact trivial | (show 0 < _; omega)); (first | rfl | (simp <;> omega)); (first | rfl | (simp <;> omega)); (omega)) | (refine k_slice rfl rfl rfl rfl ⟨?_, ?_, ?_⟩ rfl rfl rfl ?_; (omega); (omega); (omega)) | (refine k_slice3 rfl rfl rfl rfl rfl ⟨?_, ?_, ?_⟩ rfl rfl rfl ?_; (omega); (omega); (omega)) | (refine k_sliceA rfl rfl rfl rfl ⟨?_, ?_, ?_, ?_⟩ rfl rfl ?_; (omega); (omega); (omega); (omega)) | (refine k_sliceE rfl rfl rfl rfl ⟨?_, ?_, ?_, ?_⟩ rfl rfl rfl rfl ?_; (omega); (omega); (omega); (omega)) | refine k_buildSlice (cs := []) rfl rfl rfl rfl rfl rfl rfl ?_ | refine k_buildSlice rfl rfl rfl rfl rfl rfl rfl ?_ | (refine k_indexAddr rfl rfl rfl ⟨?_, ?_⟩ ?_; (omega); (omega)) | (refine k_indexAddrs rfl rfl rfl ⟨?_, ?_⟩ rfl ?_; (omega); (omega)) | refine k_loade rfl rfl rfl ?_ | refine k_fieldAddre rfl rfl rfl rfl ?_ | refine k_len rfl rfl ?_ | (refine k_addi rfl rfl rfl ?_ ?_; (omega)) | (refine k_lssT rfl rfl rfl ?_ ?_; (omega)) | (refine k_lssF rfl rfl rfl ?_ ?_; (omega)) | refine W_yes rfl ?_ | refine W_no rfl ?_)
    (first | with_reducible refine q_endr ?_ | with_reducible refine q_endn ?_); refine rets1 Try.results30 (by first | exact RetV.tmp _ _ rfl | exact RetV.cell _ _ _ _ _ _ _ _ inferInstance rfl rfl rfl) ?_
    rfl
set_option maxHeartbeats 16000000 in
theorem sameLoad_self (l : LoadT) (h1 : l.tk.length = 32) (h2 : l.tp.length = 32) (ha : l.am < M256) (hf : l.fe < M256) (ks : List (List UInt8)) (hk : ∀ k ∈ ks, k.length = 20) (hn : ks.length = l.kn) (hkz : l.kz = bs ks.flatten) (hn9 : l.kn ≤ 255) : Pur Try.prog 16 [.agg l.cells, .agg l.cells] (.bool true) := by
  unfold LoadT.cells
  have fa := ldC_all (k := l.k) (am := l.am) (fe := l.fe) (ho := l.ho) h1 h2 l.tl rfl
  have f0 := ldC_k l.k l.am l.fe l.tk l.ho l.tp l.tl
  have f1 := ldC_am l.k l.am l.fe l.tk l.ho l.tp l.tl
  have f2 := ldC_fe l.k l.am l.fe l.tk l.ho l.tp l.tl
  have f3 := ldC_tk (k := l.k) (am := l.am) (fe := l.fe) (ho := l.ho) (tp := l.tp) h1 l.tl
  have f4 := ldC_ho (k := l.k) (am := l.am) (fe := l.fe) (ho := l.ho) (tp := l.tp) h1 l.tl
  have f5 := ldC_tp (k := l.k) (am := l.am) (fe := l.fe) (ho := l.ho) h1 h2 l.tl
  have f6 := ldC_tl (k := l.k) (am := l.am) (fe := l.fe) (ho := l.ho) h1 h2 0 _ l.tl rfl 74 rfl
  have f7 := ldC_tl (k := l.k) (am := l.am) (fe := l.fe) (ho := l.ho) h1 h2 1 _ l.tl rfl 75 rfl
  have f8 := ldC_tl (k := l.k) (am := l.am) (fe := l.fe) (ho := l.ho) h1 h2 2 _ l.tl rfl 76 rfl
  have f9 := ldC_tl (k := l.k) (am := l.am) (fe := l.fe) (ho := l.ho) h1 h2 3 _ l.tl rfl 77 rfl
  have f10 := ldC_tl (k := l.k) (am := l.am) (fe := l.fe) (ho := l.ho) h1 h2 4 _ l.tl rfl 78 rfl
  have f11 := ldC_tl (k := l.k) (am := l.am) (fe := l.fe) (ho := l.ho) h1 h2 5 _ l.tl rfl 79 rfl
  have hl := ldC_len (k := l.k) (am := l.am) (fe := l.fe) (ho := l.ho) h1 h2 l.tl rfl
  have d1 := deqs_ud l.am l.am ha ha
  have d2 := deqs_ud l.fe l.fe hf hf
  simp only [decide_true] at d1 d2
  have e1 : ∀ z : List UInt8, deqs (bs z) (bs z) = true := fun z => by
    induction z with
    | nil => rfl
    | cons c z ih =>
      show (deq1 (.int .u8 (c.toNat : Int)) (.int .u8 (c.toNat : Int)) && deqs (bs z) (bs z)) = true
      rw [ih]; simp [deq1]
  have d3 := e1 l.tk
  have d4 := e1 l.tp
  have lk : ∀ (n : Nat) (z : List UInt8), z.length = n → lks (bs z) = lks (bs (List.replicate n 0)) := by
    intro n
    induction n with
    | zero => intro z h; rw [List.eq_nil_of_length_eq_zero h]; rfl
    | succ n ih =>
      intro z h
      cases z with
      | nil => cases h
      | cons c z =>
        have := ih z (by simpa using h)
        show lks (D.int .u8 (c.toNat : Int) :: bs z) = lks (D.int .u8 _ :: bs (List.replicate n 0))
        unfold lks
        rw [this]; rfl
  have l1 := lk 32 l.tk h1
  have l2 := lk 32 l.tp h2
  have q1 : (l.sy.toList == l.sy.toList) = true := by simp
  have q2 : ((ByteArray.mk l.da.toArray).toList == (ByteArray.mk l.da.toArray).toList) = true := by simp
  have hat : ∀ (j : Nat) (k : List UInt8), ks[j]? = some k → ∀ ze, cut ⟨true, 20, ze⟩ 0 (l.kz.drop ((j : Int).toNat * 20)) = some (.agg (bs k)) := fun j k h ze => by
    rw [hkz]; exact keys_cut ks hk j k h ze
  have hkl : l.kn * 20 = l.kz.length := by rw [hkz, bs_len, (keys_at ks hk).1, hn]
  have hXb : ∀ n, D.bels n (ldC l.k l.am l.fe l.tk l.ho l.tp l.tl) = true := fun n => bels_cls _ _ (ldC_cl _ _ _ _ _ _ _ (by unfold LoadT.tl; simp [D.cls, D.cl]))
  generalize ldC l.k l.am l.fe l.tk l.ho l.tp l.tl = X at *
  obtain ⟨k, am, fe, tk, ho, tp, tc, de, sy, da, ix, kn, kz⟩ := l
  dsimp only at *

  refine pur_intro Try.func16 rfl Try.ntmps16 rfl (by first | rfl | assumption | exact bs_cl _) fun B => ?_
  repeat (first | with_reducible (first | refine W_seq ?_ | refine q_then ?_ | refine q_thenr ?_ | refine q_thenx ?_ | refine W_block ?_ | refine q_block ?_ | refine q_blockr ?_ | refine q_blockx ?_ | refine W_ret ?_ | refine W_skip ?_ | refine W_label ?_ | refine W_exit ?_ | refine W_scope ?_ | refine q_scope ?_ | refine q_scoper ?_ | refine q_scopex ?_) | (with_reducible refine R_nil ?_; try dsimp only [slots0, slots_ud, cells_U, agg_ud, drop0, dropS, takeS, take0, ud_nil, take_ud, take_ud0, drop_ud, drop_ud0, take_udk, D.cells, D.fz, D.fzs, List.take_succ_cons, List.take_zero, List.drop_succ_cons, List.drop_zero, List.cons_append, List.nil_append, List.append_eq, List.length_cons, List.length_nil, Nat.reduceAdd, Nat.reduceMul, Nat.reduceSub, Int.reduceAdd, Int.reduceSub, Int.reduceToNat, Int.reduceNeg, Int.reduceMul]) | refine q_blocky rfl ?_ | refine W_plain rfl ?_ | refine W_drawn mixed rfl ?_ | refine and_chk (by kernel_rfl) ?_ | refine k_load rfl rfl rfl (f11 _) ?_ | refine k_move rfl rfl ?_ | refine k_assign rfl rfl ?_ | refine k_load rfl rfl rfl rfl ?_ | refine k_box rfl rfl rfl ?_ | refine k_fieldAddr rfl rfl rfl ?_ | (refine k_append rfl rfl rfl ?_ ?_ ?_ rfl ?_ rfl rfl rfl ?_; (first | rfl | exact trivial | (show 0 < _; omega)); (first | rfl | (simp <;> omega)); (first | rfl | (simp <;> omega)); (omega)) | (refine k_slice rfl rfl rfl rfl ⟨?_, ?_, ?_⟩ rfl rfl rfl ?_; (omega); (omega); (omega)) | (refine k_slice3 rfl rfl rfl rfl rfl ⟨?_, ?_, ?_⟩ rfl rfl rfl ?_; (omega); (omega); (omega)) | (refine k_sliceA rfl rfl rfl rfl ⟨?_, ?_, ?_, ?_⟩ rfl rfl ?_; (omega); (omega); (omega); (omega)) | (refine k_sliceE rfl rfl rfl rfl ⟨?_, ?_, ?_, ?_⟩ rfl rfl rfl rfl ?_; (omega); (omega); (omega); (omega)) | (refine k_indexAddr rfl rfl rfl ⟨?_, ?_⟩ ?_; (omega); (omega)) | (refine k_indexAddrs rfl rfl rfl ⟨?_, ?_⟩ rfl ?_; (omega); (omega)) | refine k_loade rfl rfl rfl ?_ | refine k_fieldAddre rfl rfl rfl rfl ?_ | refine k_len rfl rfl ?_ | refine k_pickT rfl rfl rfl ?_ | refine k_pickF rfl rfl rfl ?_ | (refine k_addi rfl rfl rfl ?_ ?_; (omega)) | (refine k_lssT rfl rfl rfl ?_ ?_; (omega)) | (refine k_lssF rfl rfl rfl ?_ ?_; (omega)) | (refine k_eqlT rfl rfl rfl ?_ ?_; (omega)) | (refine k_eqlF rfl rfl rfl ?_ ?_; (omega)) | (refine k_neqT rfl rfl rfl ?_ ?_; (omega)) | (refine k_neqF rfl rfl rfl ?_ ?_; (omega)) | refine k_eqa rfl rfl rfl rfl rfl rfl ?_ | refine k_nea rfl rfl rfl rfl rfl rfl ?_ | refine k_skip rfl ?_ | refine k_skip0 rfl ?_ | refine k_pick rfl rfl rfl rfl rfl ?_ | refine W_yes rfl ?_ | refine W_no rfl ?_)
  refine W_loopW (fun n' ρ m nx => ∃ (j : Nat), j ≤ kn ∧ n' = kn - j ∧ ρ = [(16, .int .i64 (j : Int)), (15, .int .i64 (kn : Int)), (4, .bool false), (3, .ptr 1 0), (2, .ptr 0 0)] ∧ m = [(1, some (.var 51 X)), (0, some (.var 51 X))] ∧ nx = 2)
    ⟨_, _, _, _, weak_sub (by repeat (first | exact trivial | refine ⟨⟨rfl, rfl⟩, ?_⟩ | refine ⟨⟨rfl, bs_bel _ _⟩, ?_⟩ | refine ⟨⟨rfl, arr_bels _ _ _⟩, ?_⟩)) (by refine ⟨⟨rfl, rfl, ?_⟩, ⟨rfl, rfl, ?_⟩, trivial⟩ <;> exact hXb _) (Nat.zero_le _), 0, Nat.zero_le _, rfl, rfl, rfl, rfl⟩ ?_
  rintro n' ρ m nx ⟨j, hj, rfl, rfl, rfl, rfl⟩
  by_cases hlt : j < kn
  · obtain ⟨key, hkey⟩ : ∃ k, ks[j]? = some k := ⟨_, List.getElem?_eq_getElem (by omega)⟩
    have h1' := hat j key hkey
    have d5 : (!deqs (bs key) (bs key)) = false := by rw [e1 key]; rfl
    have l5 := lk 20 key (hk key (List.mem_of_getElem? hkey))
    generalize bs key = zk at *
    repeat (first | with_reducible (first | refine W_seq ?_ | refine q_then ?_ | refine q_thenr ?_ | refine q_thenx ?_ | refine W_block ?_ | refine q_block ?_ | refine q_blockr ?_ | refine q_blockx ?_ | refine W_ret ?_ | refine W_skip ?_ | refine W_label ?_ | refine W_exit ?_ | refine W_scope ?_ | refine q_scope ?_ | refine q_scoper ?_ | refine q_scopex ?_) | (with_reducible refine R_nil ?_; try dsimp only [slots0, slots_ud, cells_U, agg_ud, drop0, dropS, takeS, take0, ud_nil, take_ud, take_ud0, drop_ud, drop_ud0, take_udk, D.cells, D.fz, D.fzs, List.take_succ_cons, List.take_zero, List.drop_succ_cons, List.drop_zero, List.cons_append, List.nil_append, List.append_eq, List.length_cons, List.length_nil, Nat.reduceAdd, Nat.reduceMul, Nat.reduceSub, Int.reduceAdd, Int.reduceSub, Int.reduceToNat, Int.reduceNeg, Int.reduceMul]) | refine q_blocky rfl ?_ | refine W_plain rfl ?_ | refine W_drawn mixed rfl ?_ | refine and_chk (by kernel_rfl) ?_ | refine k_load rfl rfl rfl (f11 _) ?_ | (refine k_indexAddrs rfl rfl rfl ⟨?_, ?_⟩ hkl ?_; (omega); (omega)) | refine k_loade rfl rfl (h1' _) ?_ | refine k_move rfl rfl ?_ | refine k_assign rfl rfl ?_ | refine k_load rfl rfl rfl rfl ?_ | refine k_box rfl rfl rfl ?_ | refine k_fieldAddr rfl rfl rfl ?_ | refine k_nea rfl rfl rfl l5 l5 d5 ?_ | (refine k_append rfl rfl rfl ?_ ?_ ?_ rfl ?_ rfl rfl rfl ?_; (first | rfl | exact trivial | (show 0 < _; omega)); (first | rfl | (simp <;> omega)); (first | rfl | (simp <;> omega)); (omega)) | (refine k_slice rfl rfl rfl rfl ⟨?_, ?_, ?_⟩ rfl rfl rfl ?_; (omega); (omega); (omega)) | (refine k_slice3 rfl rfl rfl rfl rfl ⟨?_, ?_, ?_⟩ rfl rfl rfl ?_; (omega); (omega); (omega)) | (refine k_sliceA rfl rfl rfl rfl ⟨?_, ?_, ?_, ?_⟩ rfl rfl ?_; (omega); (omega); (omega); (omega)) | (refine k_sliceE rfl rfl rfl rfl ⟨?_, ?_, ?_, ?_⟩ rfl rfl rfl rfl ?_; (omega); (omega); (omega); (omega)) | (refine k_indexAddr rfl rfl rfl ⟨?_, ?_⟩ ?_; (omega); (omega)) | (refine k_indexAddrs rfl rfl rfl ⟨?_, ?_⟩ rfl ?_; (omega); (omega)) | refine k_loade rfl rfl rfl ?_ | refine k_fieldAddre rfl rfl rfl rfl ?_ | refine k_len rfl rfl ?_ | refine k_pickT rfl rfl rfl ?_ | refine k_pickF rfl rfl rfl ?_ | (refine k_addi rfl rfl rfl ?_ ?_; (omega)) | (refine k_lssT rfl rfl rfl ?_ ?_; (omega)) | (refine k_lssF rfl rfl rfl ?_ ?_; (omega)) | (refine k_eqlT rfl rfl rfl ?_ ?_; (omega)) | (refine k_eqlF rfl rfl rfl ?_ ?_; (omega)) | (refine k_neqT rfl rfl rfl ?_ ?_; (omega)) | (refine k_neqF rfl rfl rfl ?_ ?_; (omega)) | refine k_eqa rfl rfl rfl rfl rfl rfl ?_ | refine k_nea rfl rfl rfl rfl rfl rfl ?_ | refine k_skip rfl ?_ | refine k_skip0 rfl ?_ | refine k_pick rfl rfl rfl rfl rfl ?_ | refine W_yes rfl ?_ | refine W_no rfl ?_)
    exact ⟨kn - (j + 1), _, _, _, weak_sub (by repeat (first | exact trivial | refine ⟨⟨rfl, rfl⟩, ?_⟩ | refine ⟨⟨rfl, bs_bel _ _⟩, ?_⟩ | refine ⟨⟨rfl, arr_bels _ _ _⟩, ?_⟩)) (by refine ⟨⟨rfl, rfl, ?_⟩, ⟨rfl, rfl, ?_⟩, trivial⟩ <;> exact hXb _) (Nat.zero_le _), by omega, j + 1, by omega, rfl, rfl, rfl, rfl⟩
  · have ej : j = kn := by omega
    subst ej
    repeat (first | with_reducible (first | refine W_seq ?_ | refine q_then ?_ | refine q_thenr ?_ | refine q_thenx ?_ | refine W_block ?_ | refine q_block ?_ | refine q_blockr ?_ | refine q_blockx ?_ | refine W_ret ?_ | refine W_skip ?_ | refine W_label ?_ | refine W_exit ?_ | refine W_scope ?_ | refine q_scope ?_ | refine q_scoper ?_ | refine q_scopex ?_) | (with_reducible refine R_nil ?_; try dsimp only [slots0, slots_ud, cells_U, agg_ud, drop0, dropS, takeS, take0, ud_nil, take_ud, take_ud0, drop_ud, drop_ud0, take_udk, D.cells, D.fz, D.fzs, List.take_succ_cons, List.take_zero, List.drop_succ_cons, List.drop_zero, List.cons_append, List.nil_append, List.append_eq, List.length_cons, List.length_nil, Nat.reduceAdd, Nat.reduceMul, Nat.reduceSub, Int.reduceAdd, Int.reduceSub, Int.reduceToNat, Int.reduceNeg, Int.reduceMul]) | refine q_blocky rfl ?_ | refine W_plain rfl ?_ | refine W_drawn mixed rfl ?_ | refine and_chk (by kernel_rfl) ?_ | refine k_load rfl rfl rfl (f0 _) ?_ | refine k_load rfl rfl rfl (f1 _) ?_ | refine k_load rfl rfl rfl (f2 _) ?_ | refine k_load rfl rfl rfl (f3 _) ?_ | refine k_load rfl rfl rfl (f4 _) ?_ | refine k_load rfl rfl rfl (f5 _) ?_ | refine k_load rfl rfl rfl (f6 _) ?_ | refine k_load rfl rfl rfl (f7 _) ?_ | refine k_load rfl rfl rfl (f8 _) ?_ | refine k_load rfl rfl rfl (f9 _) ?_ | refine k_load rfl rfl rfl (f10 _) ?_ | refine k_load rfl rfl rfl (f11 _) ?_ | refine k_move rfl rfl ?_ | refine k_assign rfl rfl ?_ | refine k_load rfl rfl rfl rfl ?_ | refine k_box rfl rfl rfl ?_ | refine k_fieldAddr rfl rfl rfl ?_ | refine k_eqa rfl rfl rfl rfl rfl d1 ?_ | refine k_eqa rfl rfl rfl rfl rfl d2 ?_ | refine k_eqa rfl rfl rfl l1 l1 d3 ?_ | refine k_eqa rfl rfl rfl l2 l2 d4 ?_ | refine k_eqs rfl rfl rfl q1 ?_ | refine k_eqs rfl rfl rfl q2 ?_ | refine k_b2s rfl Try.underlying9 Try.underlying5 rfl rfl ?_ | (refine k_append rfl rfl rfl ?_ ?_ ?_ rfl ?_ rfl rfl rfl ?_; (first | rfl | exact trivial | (show 0 < _; omega)); (first | rfl | (simp <;> omega)); (first | rfl | (simp <;> omega)); (omega)) | (refine k_slice rfl rfl rfl rfl ⟨?_, ?_, ?_⟩ rfl rfl rfl ?_; (omega); (omega); (omega)) | (refine k_slice3 rfl rfl rfl rfl rfl ⟨?_, ?_, ?_⟩ rfl rfl rfl ?_; (omega); (omega); (omega)) | (refine k_sliceA rfl rfl rfl rfl ⟨?_, ?_, ?_, ?_⟩ rfl rfl ?_; (omega); (omega); (omega); (omega)) | (refine k_sliceE rfl rfl rfl rfl ⟨?_, ?_, ?_, ?_⟩ rfl rfl rfl rfl ?_; (omega); (omega); (omega); (omega)) | (refine k_indexAddr rfl rfl rfl ⟨?_, ?_⟩ ?_; (omega); (omega)) | (refine k_indexAddrs rfl rfl rfl ⟨?_, ?_⟩ rfl ?_; (omega); (omega)) | refine k_loade rfl rfl rfl ?_ | refine k_fieldAddre rfl rfl rfl rfl ?_ | refine k_len rfl rfl ?_ | refine k_pickT rfl rfl rfl ?_ | refine k_pickF rfl rfl rfl ?_ | (refine k_addi rfl rfl rfl ?_ ?_; (omega)) | (refine k_lssT rfl rfl rfl ?_ ?_; (omega)) | (refine k_lssF rfl rfl rfl ?_ ?_; (omega)) | (refine k_eqlT rfl rfl rfl ?_ ?_; (omega)) | (refine k_eqlF rfl rfl rfl ?_ ?_; (omega)) | (refine k_neqT rfl rfl rfl ?_ ?_; (omega)) | (refine k_neqF rfl rfl rfl ?_ ?_; (omega)) | refine k_eqa rfl rfl rfl rfl rfl rfl ?_ | refine k_nea rfl rfl rfl rfl rfl rfl ?_ | refine k_skip rfl ?_ | refine k_skip0 rfl ?_ | refine k_pick rfl rfl rfl rfl rfl ?_ | refine W_yes rfl ?_ | refine W_no rfl ?_)
    (first | with_reducible refine q_endr ?_ | with_reducible refine q_endn ?_); refine rets1 Try.results16 (by first | exact RetV.tmp _ _ rfl | exact RetV.cell _ _ _ _ _ _ _ _ inferInstance rfl rfl rfl) ?_
    rfl
end Go.Proofs.Ytbpaimfnfigjpaa
