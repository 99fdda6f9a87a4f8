/- load: bare of the other kinds; check of the kinds. Conditions: as said. -/
import Derived.Test.YtbpaimfnfigjpaaGe
import Derived.Test.YtbpaimfnfigjpaaLdN
namespace Go.Proofs.Ytbpaimfnfigjpaa
open Go.RowKit Go.Lib Go.IntWalk
set_option linter.unusedVariables false
set_option maxRecDepth 100000
theorem z32_len : z32'.length = 32 := by unfold z32'; rw [List.length_replicate]
theorem fill_me (k : Int) (tk : List UInt8) (ho : Int) (de : Int) (sy : ByteArray) (h1 : tk.length = 32) :
    dfill ldPl ld0 [(0, .int .i64 k), (3, .agg (bs tk)), (4, .int .i64 ho), (7, .int .i64 de), (8, .str sy)] = some (ldC k 0 0 tk ho z32' [.int .i64 0, .int .i64 de, .str sy, .slice .nil 0 [], .int .i64 0, .slice .nil 0 []]) := by
  obtain ⟨f, rfl⟩ := list32x tk h1
  kernel_rfl
theorem fill_tu (k : Int) (ix : Int) (n : Nat) (z : List D) :
    dfill ldPl ld0 [(0, .int .i64 k), (10, .int .i64 ix), (11, .slice .frozen n z)] = some (ldC k 0 0 z32' 0 z32' [.int .i64 0, .int .i64 0, .str ⟨#[]⟩, .slice .nil 0 [], .int .i64 ix, .slice .frozen n z]) := by
  kernel_rfl
theorem cls_kz (ix : Int) (n : Nat) (z : List D) : D.cls [.int .i64 0, .int .i64 0, .str ⟨#[]⟩, .slice .nil 0 [], .int .i64 ix, .slice .frozen n z] = true := by
  simp [D.cls, D.cl]
set_option maxHeartbeats 8000000 in
theorem me_bare (l : LoadT) (h1 : l.tk.length = 32) (h2 : l.tp.length = 32) (Y : List D) (hY : ldC l.k 0 0 l.tk l.ho z32' [.int .i64 0, .int .i64 l.de, .str l.sy, .slice .nil 0 [], .int .i64 0, .slice .nil 0 []] = Y) : Pur Try.prog 62 [.agg [], .agg l.cells] (.agg Y) := by
  unfold LoadT.cells
  have fa := ldC_all (k := l.k) (am := l.am) (fe := l.fe) (ho := l.ho) h1 h2 l.tl rfl
  have f0 := ldC_k l.k l.am l.fe l.tk l.ho l.tp l.tl
  have f1 := ldC_am l.k l.am l.fe l.tk l.ho l.tp l.tl
  have f2 := ldC_fe l.k l.am l.fe l.tk l.ho l.tp l.tl
  have f3 := ldC_tk (k := l.k) (am := l.am) (fe := l.fe) (ho := l.ho) (tp := l.tp) h1 l.tl
  have f4 := ldC_ho (k := l.k) (am := l.am) (fe := l.fe) (ho := l.ho) (tp := l.tp) h1 l.tl
  have f5 := ldC_tp (k := l.k) (am := l.am) (fe := l.fe) (ho := l.ho) h1 h2 l.tl
  have f6 := ldC_tl (k := l.k) (am := l.am) (fe := l.fe) (ho := l.ho) h1 h2 0 _ l.tl rfl 74 rfl
  have f7 := ldC_tl (k := l.k) (am := l.am) (fe := l.fe) (ho := l.ho) h1 h2 1 _ l.tl rfl 75 rfl
  have f8 := ldC_tl (k := l.k) (am := l.am) (fe := l.fe) (ho := l.ho) h1 h2 2 _ l.tl rfl 76 rfl
  have f9 := ldC_tl (k := l.k) (am := l.am) (fe := l.fe) (ho := l.ho) h1 h2 3 _ l.tl rfl 77 rfl
  have f10 := ldC_tl (k := l.k) (am := l.am) (fe := l.fe) (ho := l.ho) h1 h2 4 _ l.tl rfl 78 rfl
  have f11 := ldC_tl (k := l.k) (am := l.am) (fe := l.fe) (ho := l.ho) h1 h2 5 _ l.tl rfl 79 rfl
  have hl := ldC_len (k := l.k) (am := l.am) (fe := l.fe) (ho := l.ho) h1 h2 l.tl rfl
  have hb := fill_me l.k l.tk l.ho l.de l.sy h1
  have hbl := ldC_len (k := l.k) (am := 0) (fe := 0) (tk := l.tk) (ho := l.ho) (tp := z32') h1 z32_len [.int .i64 0, .int .i64 l.de, .str l.sy, .slice .nil 0 [], .int .i64 0, .slice .nil 0 []] rfl
  have hba := ldC_all (k := l.k) (am := 0) (fe := 0) (tk := l.tk) (ho := l.ho) (tp := z32') h1 z32_len [.int .i64 0, .int .i64 l.de, .str l.sy, .slice .nil 0 [], .int .i64 0, .slice .nil 0 []] rfl
  have hbs := ldC_lay (k := l.k) (am := 0) (fe := 0) (tk := l.tk) (ho := l.ho) (tp := z32') h1 z32_len [.int .i64 0, .int .i64 l.de, .str l.sy, .slice .nil 0 [], .int .i64 0, .slice .nil 0 []] rfl
  have hfz := ldC_fzs l.k 0 0 l.tk l.ho z32' [.int .i64 0, .int .i64 l.de, .str l.sy, .slice .nil 0 [], .int .i64 0, .slice .nil 0 []]
  have hcl := ldC_cl l.k 0 0 l.tk l.ho z32' [.int .i64 0, .int .i64 l.de, .str l.sy, .slice .nil 0 [], .int .i64 0, .slice .nil 0 []] rfl
  rw [hY] at hb hbl hba hbs hfz hcl
  have heq : D.fzs Y = Y := by rw [hfz, ← hY]; rfl
  generalize ldC l.k l.am l.fe l.tk l.ho l.tp l.tl = X at *
  obtain ⟨k, am, fe, tk, ho, tp, tc, de, sy, da, ix, kn, kz⟩ := l
  dsimp only at *
  refine pur_intro Try.func62 rfl Try.ntmps62 rfl hcl fun B => ?_
  repeat (first | with_reducible (first | refine W_seq ?_ | refine q_then ?_ | refine q_thenr ?_ | refine q_thenx ?_ | refine W_block ?_ | refine q_block ?_ | refine q_blockr ?_ | refine q_blockx ?_ | refine W_ret ?_ | refine W_skip ?_ | refine W_label ?_ | refine W_exit ?_ | refine W_scope ?_ | refine q_scope ?_ | refine q_scoper ?_ | refine q_scopex ?_) | (with_reducible refine R_nil ?_; try dsimp only [slots0, slots_ud, cells_U, agg_ud, drop0, dropS, takeS, take0, ud_nil, take_ud, take_ud0, drop_ud, drop_ud0, take_udk, D.cells, D.fz, D.fzs, List.take_succ_cons, List.take_zero, List.drop_succ_cons, List.drop_zero, List.cons_append, List.nil_append, List.append_eq, List.length_cons, List.length_nil, Nat.reduceAdd, Nat.reduceMul, Nat.reduceSub, Int.reduceAdd, Int.reduceSub, Int.reduceToNat, Int.reduceNeg, Int.reduceMul]) | refine q_blocky rfl ?_ | refine W_plain rfl ?_ | refine W_drawn mixed rfl ?_ | refine and_chk (by kernel_rfl) ?_ | refine k_load rfl rfl rfl (f0 _) ?_ | refine k_load rfl rfl rfl (f3 _) ?_ | refine k_load rfl rfl rfl (f4 _) ?_ | refine k_load rfl rfl rfl (f7 _) ?_ | refine k_load rfl rfl rfl (f8 _) ?_ | refine k_build rfl rfl hb ?_ | refine k_store rfl rfl rfl rfl (by exact hbl) rfl (by exact hbs _ rfl) ?_ | refine k_load rfl rfl rfl rfl ?_ | refine k_alloc rfl ?_ | refine k_box rfl rfl rfl ?_ | refine k_store rfl rfl rfl rfl rfl rfl rfl ?_ | refine k_fieldAddr rfl rfl rfl ?_ | refine k_build rfl rfl rfl ?_ | (refine k_append rfl rfl rfl ?_ ?_ ?_ rfl ?_ rfl rfl rfl ?_; (first | rfl | exact trivial | (show 0 < _; omega)); (first | rfl | (simp <;> omega)); (first | rfl | (simp <;> omega)); (omega)) | (refine k_slice rfl rfl rfl rfl ⟨?_, ?_, ?_⟩ rfl rfl rfl ?_; (omega); (omega); (omega)) | (refine k_slice3 rfl rfl rfl rfl rfl ⟨?_, ?_, ?_⟩ rfl rfl rfl ?_; (omega); (omega); (omega)) | (refine k_sliceA rfl rfl rfl rfl ⟨?_, ?_, ?_, ?_⟩ rfl rfl ?_; (omega); (omega); (omega); (omega)) | (refine k_sliceE rfl rfl rfl rfl ⟨?_, ?_, ?_, ?_⟩ rfl rfl rfl rfl ?_; (omega); (omega); (omega); (omega)) | refine k_loade rfl rfl rfl ?_ | refine k_fieldAddre rfl rfl rfl rfl ?_ | refine W_yes rfl ?_ | refine W_no rfl ?_)
  (first | with_reducible refine q_endr ?_ | with_reducible refine q_endn ?_); refine rets1 Try.results62 (RetV.cell _ _ _ _ _ _ _ _ inferInstance rfl rfl (by exact hba _)) ?_
  show D.agg (D.fzs Y) = _
  rw [heq]
set_option maxHeartbeats 8000000 in
theorem tu_bare (l : LoadT) (h1 : l.tk.length = 32) (h2 : l.tp.length = 32) (Y : List D) (hY : ldC l.k 0 0 z32' 0 z32' [.int .i64 0, .int .i64 0, .str ⟨#[]⟩, .slice .nil 0 [], .int .i64 l.ix, .slice .frozen l.kn l.kz] = Y) : Pur Try.prog 66 [.agg [], .agg l.cells] (.agg Y) := by
  unfold LoadT.cells
  have fa := ldC_all (k := l.k) (am := l.am) (fe := l.fe) (ho := l.ho) h1 h2 l.tl rfl
  have f0 := ldC_k l.k l.am l.fe l.tk l.ho l.tp l.tl
  have f1 := ldC_am l.k l.am l.fe l.tk l.ho l.tp l.tl
  have f2 := ldC_fe l.k l.am l.fe l.tk l.ho l.tp l.tl
  have f3 := ldC_tk (k := l.k) (am := l.am) (fe := l.fe) (ho := l.ho) (tp := l.tp) h1 l.tl
  have f4 := ldC_ho (k := l.k) (am := l.am) (fe := l.fe) (ho := l.ho) (tp := l.tp) h1 l.tl
  have f5 := ldC_tp (k := l.k) (am := l.am) (fe := l.fe) (ho := l.ho) h1 h2 l.tl
  have f6 := ldC_tl (k := l.k) (am := l.am) (fe := l.fe) (ho := l.ho) h1 h2 0 _ l.tl rfl 74 rfl
  have f7 := ldC_tl (k := l.k) (am := l.am) (fe := l.fe) (ho := l.ho) h1 h2 1 _ l.tl rfl 75 rfl
  have f8 := ldC_tl (k := l.k) (am := l.am) (fe := l.fe) (ho := l.ho) h1 h2 2 _ l.tl rfl 76 rfl
  have f9 := ldC_tl (k := l.k) (am := l.am) (fe := l.fe) (ho := l.ho) h1 h2 3 _ l.tl rfl 77 rfl
  have f10 := ldC_tl (k := l.k) (am := l.am) (fe := l.fe) (ho := l.ho) h1 h2 4 _ l.tl rfl 78 rfl
  have f11 := ldC_tl (k := l.k) (am := l.am) (fe := l.fe) (ho := l.ho) h1 h2 5 _ l.tl rfl 79 rfl
  have hl := ldC_len (k := l.k) (am := l.am) (fe := l.fe) (ho := l.ho) h1 h2 l.tl rfl
  have hb := fill_tu l.k l.ix l.kn l.kz
  have hbl := ldC_len (k := l.k) (am := 0) (fe := 0) (tk := z32') (ho := 0) (tp := z32') z32_len z32_len [.int .i64 0, .int .i64 0, .str ⟨#[]⟩, .slice .nil 0 [], .int .i64 l.ix, .slice .frozen l.kn l.kz] rfl
  have hba := ldC_all (k := l.k) (am := 0) (fe := 0) (tk := z32') (ho := 0) (tp := z32') z32_len z32_len [.int .i64 0, .int .i64 0, .str ⟨#[]⟩, .slice .nil 0 [], .int .i64 l.ix, .slice .frozen l.kn l.kz] rfl
  have hbs := ldC_lay (k := l.k) (am := 0) (fe := 0) (tk := z32') (ho := 0) (tp := z32') z32_len z32_len [.int .i64 0, .int .i64 0, .str ⟨#[]⟩, .slice .nil 0 [], .int .i64 l.ix, .slice .frozen l.kn l.kz] rfl
  have hfz := ldC_fzs l.k 0 0 z32' 0 z32' [.int .i64 0, .int .i64 0, .str ⟨#[]⟩, .slice .nil 0 [], .int .i64 l.ix, .slice .frozen l.kn l.kz]
  have hcl := ldC_cl l.k 0 0 z32' 0 z32' [.int .i64 0, .int .i64 0, .str ⟨#[]⟩, .slice .nil 0 [], .int .i64 l.ix, .slice .frozen l.kn l.kz] (cls_kz l.ix l.kn l.kz)
  rw [hY] at hb hbl hba hbs hfz hcl
  have heq : D.fzs Y = Y := by rw [hfz, ← hY]; rfl
  generalize ldC l.k l.am l.fe l.tk l.ho l.tp l.tl = X at *
  obtain ⟨k, am, fe, tk, ho, tp, tc, de, sy, da, ix, kn, kz⟩ := l
  dsimp only at *
  refine pur_intro Try.func66 rfl Try.ntmps66 rfl hcl fun B => ?_
  repeat (first | with_reducible (first | refine W_seq ?_ | refine q_then ?_ | refine q_thenr ?_ | refine q_thenx ?_ | refine W_block ?_ | refine q_block ?_ | refine q_blockr ?_ | refine q_blockx ?_ | refine W_ret ?_ | refine W_skip ?_ | refine W_label ?_ | refine W_exit ?_ | refine W_scope ?_ | refine q_scope ?_ | refine q_scoper ?_ | refine q_scopex ?_) | (with_reducible refine R_nil ?_; try dsimp only [slots0, slots_ud, cells_U, agg_ud, drop0, dropS, takeS, take0, ud_nil, take_ud, take_ud0, drop_ud, drop_ud0, take_udk, D.cells, D.fz, D.fzs, List.take_succ_cons, List.take_zero, List.drop_succ_cons, List.drop_zero, List.cons_append, List.nil_append, List.append_eq, List.length_cons, List.length_nil, Nat.reduceAdd, Nat.reduceMul, Nat.reduceSub, Int.reduceAdd, Int.reduceSub, Int.reduceToNat, Int.reduceNeg, Int.reduceMul]) | refine q_blocky rfl ?_ | refine W_plain rfl ?_ | refine W_drawn mixed rfl ?_ | refine and_chk (by kernel_rfl) ?_ | refine k_load rfl rfl rfl (f0 _) ?_ | refine k_load rfl rfl rfl (f10 _) ?_ | refine k_load rfl rfl rfl (f11 _) ?_ | refine k_build rfl rfl hb ?_ | refine k_store rfl rfl rfl rfl (by exact hbl) rfl (by exact hbs _ rfl) ?_ | refine k_load rfl rfl rfl rfl ?_ | refine k_alloc rfl ?_ | refine k_box rfl rfl rfl ?_ | refine k_store rfl rfl rfl rfl rfl rfl rfl ?_ | refine k_fieldAddr rfl rfl rfl ?_ | refine k_build rfl rfl rfl ?_ | (refine k_append rfl rfl rfl ?_ ?_ ?_ rfl ?_ rfl rfl rfl ?_; (first | rfl | exact trivial | (show 0 < _; omega)); (first | rfl | (simp <;> omega)); (first | rfl | (simp <;> omega)); (omega)) | (refine k_slice rfl rfl rfl rfl ⟨?_, ?_, ?_⟩ rfl rfl rfl ?_; (omega); (omega); (omega)) | (refine k_slice3 rfl rfl rfl rfl rfl ⟨?_, ?_, ?_⟩ rfl rfl rfl ?_; (omega); (omega); (omega)) | (refine k_sliceA rfl rfl rfl rfl ⟨?_, ?_, ?_, ?_⟩ rfl rfl ?_; (omega); (omega); (omega); (omega)) | (refine k_sliceE rfl rfl rfl rfl ⟨?_, ?_, ?_, ?_⟩ rfl rfl rfl rfl ?_; (omega); (omega); (omega); (omega)) | refine k_loade rfl rfl rfl ?_ | refine k_fieldAddre rfl rfl rfl rfl ?_ | refine W_yes rfl ?_ | refine W_no rfl ?_)
  (first | with_reducible refine q_endr ?_ | with_reducible refine q_endn ?_); refine rets1 Try.results66 (RetV.cell _ _ _ _ _ _ _ _ inferInstance rfl rfl (by exact hba _)) ?_
  show D.agg (D.fzs Y) = _
  rw [heq]
end Go.Proofs.Ytbpaimfnfigjpaa
