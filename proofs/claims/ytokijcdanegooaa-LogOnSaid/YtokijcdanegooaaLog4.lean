/- Logs of raw things: logged. Conditions: strings that fit. -/
import Derived.Test.YtokijcdanegooaaLog3
namespace Go.Proofs.Ytokijcdanegooaa
open Go.RowKit Go.Lib Go.IntWalk
set_option linter.unusedVariables false
set_option maxRecDepth 100000
--nrm lg_all lgn_all rt_all

/-- what is to be found, and how much of it surely -/
def stW (x : List By × Nat) (r : RawT) : List By × Nat := (x.1 ++ [txt r.s], if r.k % 3 = 0 then x.1.length + 1 else x.2)
def wst (l : List RawT) : List By × Nat := l.foldl stW ([], 0)
theorem wst_take (l : List RawT) (k : Nat) (r : RawT) (h : l[k]? = some r) : wst (l.take (k + 1)) = stW (wst (l.take k)) r := by
  unfold wst
  rw [List.take_add_one, h]
  simp [List.foldl_append]
structure WOk (n : Nat) (x : List By × Nat) : Prop where
  len : x.1.length = n
  small : ∀ b ∈ x.1, b.length ≤ 40
  sync : x.2 ≤ x.1.length
theorem stW_ok {n : Nat} {x : List By × Nat} (h : WOk n x) (r : RawT) : WOk (n + 1) (stW x r) where
  len := by simp [stW, h.len]
  small := fun b hb => by
    rcases List.mem_append.1 hb with hb | hb
    · exact h.small b hb
    · simp at hb; subst hb; exact txt_len _
  sync := by
    have := h.sync
    show (if r.k % 3 = 0 then x.1.length + 1 else x.2) ≤ (x.1 ++ [txt r.s]).length
    rw [List.length_append]
    split <;> simp <;> omega
theorem fold_W : ∀ (l : List RawT) (x : List By × Nat) (n : Nat), WOk n x → WOk (n + l.length) (l.foldl stW x)
  | [], x, n, h => h
  | r :: l, x, n, h => by
    have := fold_W l (stW x r) (n + 1) (stW_ok h r)
    rw [List.foldl_cons, List.length_cons, show n + (l.length + 1) = n + 1 + l.length from by omega]
    exact this
theorem wst_ok (l : List RawT) : WOk l.length (wst l) := by
  have := fold_W l ([], 0) 0 ⟨rfl, fun b hb => by simp at hb, Nat.le_refl _⟩
  rw [Nat.zero_add] at this; exact this
theorem cat8_le : ∀ (l : List By), (∀ b ∈ l, b.length ≤ 40) → (cat8 l).length ≤ 43 * l.length
  | [], _ => by simp [cat8]
  | b :: l, h => by
    have h1 := cat8_le l fun x hx => h x (List.mem_cons_of_mem _ hx)
    have h2 := h b (by simp)
    have e : cat8 (b :: l) = rec8 b ++ cat8 l := by simp [cat8]
    rw [e, List.length_append, rec8_len, List.length_cons]; omega
abbrev wa (x : List By × Nat) : By := cat8 (x.1.take x.2)
abbrev wb (x : List By × Nat) : By := cat8 (x.1.drop x.2)
theorem wab (x : List By × Nat) : wa x ++ wb x = cat8 x.1 := by
  show cat8 _ ++ cat8 _ = _
  rw [← cat8_app, List.take_append_drop]
theorem wab_len {n : Nat} {x : List By × Nat} (h : WOk n x) : (wa x).length + (wb x).length ≤ 43 * n := by
  rw [← List.length_append, wab, ← h.len]
  exact cat8_le _ h.small
set_option maxHeartbeats 8000000 in
theorem logged_ok (l : List RawT) (hok : ∀ r ∈ l, r.ok) (x : List By × Nat) (hx : wst (l.take 20) = x) : Pur Try.prog 16 [.slice .frozen l.length (rws l)] (.tup [.agg (lg (wa x) (wb x)), .slice .frozen x.1.length (rcs x.1), .int .i64 (x.2 : Nat), .bool true]) := by
  have so := some_ok l 20 (by decide)
  have hok : ∀ r ∈ l.take 20, r.ok := fun r hr => hok r (List.mem_of_mem_take hr)
  have h20 : (l.take 20).length ≤ 20 := by rw [List.length_take]; omega
  generalize l.take 20 = z at *
  have hl := rws_len z
  refine pur_intro Try.func16 rfl Try.ntmps16 rfl rfl fun B => ?_
  repeat (first | with_reducible refine W_seq ?_ | with_reducible refine q_then ?_ | with_reducible refine q_thenr ?_ | with_reducible refine q_thenx ?_ | with_reducible refine W_block ?_ | with_reducible refine q_block ?_ | with_reducible refine q_blockr ?_ | with_reducible refine q_blockx ?_ | with_reducible refine W_ret ?_ | with_reducible refine W_skip ?_ | with_reducible refine W_label ?_ | with_reducible refine W_exit ?_ | with_reducible refine W_scope ?_ | with_reducible refine q_scope ?_ | with_reducible refine q_scoper ?_ | with_reducible refine q_scopex ?_ | (with_reducible refine R_nil ?_; try dsimp only [slots0, slots_ud, lg_all, lgn_all, rt_all, cells_U, agg_ud, drop0, dropS, takeS, take0, ud_nil, take_ud, take_ud0, drop_ud, drop_ud0, take_udk, D.cells, D.fz, D.fzs, List.take_succ_cons, List.take_zero, List.drop_succ_cons, List.drop_zero, List.cons_append, List.nil_append, List.append_eq, List.length_cons, List.length_nil, Nat.reduceAdd, Nat.reduceMul, Nat.reduceSub, Int.reduceAdd, Int.reduceSub, Int.reduceToNat, Int.reduceNeg, Int.reduceMul]) | refine q_blocky rfl ?_ | refine W_plain rfl ?_ | refine W_drawn mixed rfl ?_ | refine and_chk (by kernel_rfl) ?_ | refine k_move rfl rfl ?_ | refine k_assign rfl rfl ?_ | refine k_load rfl rfl rfl rfl ?_ | refine k_alloc rfl ?_ | refine k_box rfl rfl rfl ?_ | refine k_store rfl rfl rfl rfl rfl rfl rfl ?_ | refine k_extract rfl rfl rfl ?_ | refine k_fieldAddr rfl rfl rfl ?_ | refine k_field rfl rfl rfl ?_ | refine k_build rfl rfl rfl ?_ | refine k_call rfl so rfl rfl rfl rfl ?_ | refine k_buildSlice (cs := []) rfl rfl rfl rfl rfl rfl rfl ?_ | refine k_buildSlice rfl rfl rfl rfl rfl rfl rfl ?_ | refine k_indexAddr rfl rfl rfl ⟨by omega, by omega⟩ ?_ | refine k_indexAddrs rfl rfl rfl ⟨by omega, by omega⟩ rfl ?_ | refine k_index rfl rfl rfl ⟨by omega, by omega⟩ rfl ?_ | refine k_loade rfl rfl rfl ?_ | refine k_fieldAddre rfl rfl rfl rfl ?_ | refine k_len rfl rfl ?_ | refine k_nilCheck rfl rfl rfl ?_ | refine k_pickT rfl rfl rfl ?_ | refine k_pickF rfl rfl rfl ?_ | refine k_addi rfl rfl rfl (by omega) ?_ | refine k_subi rfl rfl rfl (by omega) ?_ | refine k_negi rfl rfl (by omega) ?_ | refine k_not rfl rfl rfl ?_ | refine k_lssT rfl rfl rfl (by omega) ?_ | refine k_lssF rfl rfl rfl (by omega) ?_ | refine k_leqT rfl rfl rfl (by omega) ?_ | refine k_leqF rfl rfl rfl (by omega) ?_ | refine k_gtrT rfl rfl rfl (by omega) ?_ | refine k_gtrF rfl rfl rfl (by omega) ?_ | refine k_geqT rfl rfl rfl (by omega) ?_ | refine k_geqF rfl rfl rfl (by omega) ?_ | refine k_eqlT rfl rfl rfl (by omega) ?_ | refine k_eqlF rfl rfl rfl (by omega) ?_ | refine k_neqT rfl rfl rfl (by omega) ?_ | refine k_neqF rfl rfl rfl (by omega) ?_ | refine k_eqa rfl rfl rfl rfl rfl rfl ?_ | refine k_nea rfl rfl rfl rfl rfl rfl ?_ | refine k_makeFunc rfl rfl rfl ?_ | refine k_skip rfl ?_ | refine k_skip0 rfl ?_ | refine k_pick rfl rfl rfl rfl rfl ?_ | refine W_yes rfl ?_ | refine W_no rfl ?_)
  refine W_of_weak (weak_tok 50 1) ?_
  refine W_loopW (fun n' ρ m nx => ∃ (k : Nat) (y : List By × Nat) (nd : Nat) (a b : By) (zo : List D), k ≤ z.length ∧ y = wst (z.take k) ∧ nd = y.1.length ∧ a = wa y ∧ b = wb y ∧ zo = rcs y.1 ∧ n' = z.length - k ∧ ρ = [(17, .int .i64 (k : Int)), (16, .int .i64 (z.length : Int)), (15, .slice .frozen z.length (rws z)), (8, .int .i64 (y.2 : Int)), (7, .slice (.own 2) nd zo), (6, .ptr 1 0), (2, .ptr 0 0)] ∧ m = [(2, some (.tok 50 1)), (1, some (.var 52 (lg a b))), (0, some (.var 52 [.slice .nil 0 [], .slice .nil 0 []]))] ∧ nx = 3)
    ⟨_, _, _, _, (weak_ren (fun l => l) (by repeat (first | exact trivial | refine ⟨⟨_, rfl, (by first | exact Up.refl _ | exact Up.fz _ _ _ | exact Up.nil _ | assumption), rfl⟩, ?_⟩)) (by repeat (first | exact trivial | refine ⟨⟨rfl, _, rfl, (by first | exact Ups.refl _ | assumption | (repeat (first | exact Ups.nil | refine Ups.cons (by first | exact Up.refl _ | exact Up.nil _ | exact Up.fz _ _ _) ?_))), rfl⟩, ?_⟩ | refine ⟨⟨rfl, rfl⟩, ?_⟩)) (by first | decide | simp) (Nat.zero_le _) (fun _ h => absurd h (Nat.not_lt_zero _))), 0, ([], 0), 0, [], [], [], Nat.zero_le _, rfl, rfl, rfl, rfl, rfl, rfl, rfl, rfl, rfl⟩ ?_
  rintro n' ρ m' nx ⟨k, y, nd, a, b, zo, hk, hy, hnd, ha, hb, hzo, rfl, rfl, rfl, rfl⟩
  have hyo : WOk k y := by
    have := wst_ok (z.take k)
    rw [← hy, List.length_take, Nat.min_eq_left hk] at this; exact this
  subst hnd
  by_cases hlt : k < z.length
  · obtain ⟨r, hget⟩ : ∃ r, z[k]? = some r := ⟨_, List.getElem?_eq_getElem hlt⟩
    have hcut := rws_cut z k r hget
    have hst := wst_take z k r hget
    rw [← hy] at hst
    have wr := hok _ (List.mem_of_getElem? hget)
    obtain ⟨rk, ra, rb, rs⟩ := r
    obtain ⟨s', hs1, ct⟩ := cut_at rs
    have ht := txt_len rs
    have hlen := wab_len hyo
    rw [← ha, ← hb] at hlen
    have ap := Append_ok a b (txt rs) (by omega) (by omega)
    have sy := Sync_at a (b ++ rec8 (txt rs)) (by rw [List.length_append, rec8_len]; omega)
    have hnk : y.1.length = k := hyo.len
    have hzol : zo.length = y.1.length := by rw [hzo, rcs_len]
    obtain ⟨u, hu⟩ : ∃ u, rk % 3 = u := ⟨_, rfl⟩
    have pk := p_picked rk 3 u (by decide) (by decide) hu
    have hsy := hyo.sync
    have e1 : (y.1 ++ [txt rs]).take y.2 = y.1.take y.2 := List.take_append_of_le_length hsy
    have e2 : (y.1 ++ [txt rs]).drop y.2 = y.1.drop y.2 ++ [txt rs] := List.drop_append_of_le_length hsy
    have e3 : zo ++ [.slice .frozen (txt rs).length (bs (txt rs))] = rcs (y.1 ++ [txt rs]) := by rw [hzo]; simp [rcs]
    generalize htx : txt rs = tx at *
    by_cases hu0 : u = 0
    · subst hu0
      have es : stW y ⟨rk, ra, rb, rs⟩ = (y.1 ++ [tx], y.1.length + 1) := by unfold stW; rw [htx, if_pos hu]
      repeat (first | with_reducible refine W_seq ?_ | with_reducible refine q_then ?_ | with_reducible refine q_thenr ?_ | with_reducible refine q_thenx ?_ | with_reducible refine W_block ?_ | with_reducible refine q_block ?_ | with_reducible refine q_blockr ?_ | with_reducible refine q_blockx ?_ | with_reducible refine W_ret ?_ | with_reducible refine W_skip ?_ | with_reducible refine W_label ?_ | with_reducible refine W_exit ?_ | with_reducible refine W_scope ?_ | with_reducible refine q_scope ?_ | with_reducible refine q_scoper ?_ | with_reducible refine q_scopex ?_ | (with_reducible refine R_nil ?_; try dsimp only [slots0, slots_ud, lg_all, lgn_all, rt_all, cells_U, agg_ud, drop0, dropS, takeS, take0, ud_nil, take_ud, take_ud0, drop_ud, drop_ud0, take_udk, D.cells, D.fz, D.fzs, List.take_succ_cons, List.take_zero, List.drop_succ_cons, List.drop_zero, List.cons_append, List.nil_append, List.append_eq, List.length_cons, List.length_nil, Nat.reduceAdd, Nat.reduceMul, Nat.reduceSub, Int.reduceAdd, Int.reduceSub, Int.reduceToNat, Int.reduceNeg, Int.reduceMul]) | refine q_blocky rfl ?_ | refine W_plain rfl ?_ | refine W_drawn mixed rfl ?_ | refine and_chk (by kernel_rfl) ?_ | refine k_move rfl rfl ?_ | refine k_assign rfl rfl ?_ | refine k_load rfl rfl rfl rfl ?_ | refine k_alloc rfl ?_ | refine k_box rfl rfl rfl ?_ | refine k_store rfl rfl rfl rfl rfl rfl rfl ?_ | refine k_extract rfl rfl rfl ?_ | refine k_fieldAddr rfl rfl rfl ?_ | refine k_field rfl rfl rfl ?_ | refine k_build rfl rfl rfl ?_ | refine k_indexAddrs rfl rfl rfl ⟨by omega, by omega⟩ hl.symm ?_ | refine k_loade rfl rfl (hcut _) ?_ | refine k_call rfl ct rfl rfl rfl rfl ?_ | refine k_s2b rfl Try.underlying9 Try.underlying5 rfl hs1 rfl ?_ | refine k_call rfl ap rfl rfl rfl rfl ?_ | refine k_call rfl pk rfl rfl rfl rfl ?_ | refine k_call rfl sy rfl rfl rfl rfl ?_ | refine k_append rfl rfl rfl (by first | rfl | exact trivial | (show 0 < _; omega)) (by first | rfl | (simp <;> omega)) (by first | rfl | (simp <;> omega)) rfl (by omega) rfl rfl rfl ?_ | refine k_slice rfl rfl rfl rfl ⟨by omega, by omega, by omega⟩ rfl rfl rfl ?_ | refine k_slice3 rfl rfl rfl rfl rfl ⟨by omega, by omega, by omega⟩ rfl rfl rfl ?_ | refine k_sliceA rfl rfl rfl rfl ⟨by omega, by omega, by omega, by omega⟩ rfl rfl ?_ | refine k_sliceE rfl rfl rfl rfl ⟨by omega, by omega, by omega, by omega⟩ rfl rfl rfl rfl ?_ | refine k_buildSlice (cs := []) rfl rfl rfl rfl rfl rfl rfl ?_ | refine k_buildSlice rfl rfl rfl rfl rfl rfl rfl ?_ | refine k_indexAddr rfl rfl rfl ⟨by omega, by omega⟩ ?_ | refine k_indexAddrs rfl rfl rfl ⟨by omega, by omega⟩ rfl ?_ | refine k_index rfl rfl rfl ⟨by omega, by omega⟩ rfl ?_ | refine k_loade rfl rfl rfl ?_ | refine k_fieldAddre rfl rfl rfl rfl ?_ | refine k_len rfl rfl ?_ | refine k_nilCheck rfl rfl rfl ?_ | refine k_pickT rfl rfl rfl ?_ | refine k_pickF rfl rfl rfl ?_ | refine k_addi rfl rfl rfl (by omega) ?_ | refine k_subi rfl rfl rfl (by omega) ?_ | refine k_negi rfl rfl (by omega) ?_ | refine k_not rfl rfl rfl ?_ | refine k_lssT rfl rfl rfl (by omega) ?_ | refine k_lssF rfl rfl rfl (by omega) ?_ | refine k_leqT rfl rfl rfl (by omega) ?_ | refine k_leqF rfl rfl rfl (by omega) ?_ | refine k_gtrT rfl rfl rfl (by omega) ?_ | refine k_gtrF rfl rfl rfl (by omega) ?_ | refine k_geqT rfl rfl rfl (by omega) ?_ | refine k_geqF rfl rfl rfl (by omega) ?_ | refine k_eqlT rfl rfl rfl (by omega) ?_ | refine k_eqlF rfl rfl rfl (by omega) ?_ | refine k_neqT rfl rfl rfl (by omega) ?_ | refine k_neqF rfl rfl rfl (by omega) ?_ | refine k_eqa rfl rfl rfl rfl rfl rfl ?_ | refine k_nea rfl rfl rfl rfl rfl rfl ?_ | refine k_makeFunc rfl rfl rfl ?_ | refine k_skip rfl ?_ | refine k_skip0 rfl ?_ | refine k_pick rfl rfl rfl rfl rfl ?_ | refine W_yes rfl ?_ | refine W_no rfl ?_)
      refine ⟨z.length - (k + 1), _, _, _, (weak_ren (fun l => if l = 2 then 6 else l) (by repeat (first | exact trivial | refine ⟨⟨_, rfl, (by first | exact Up.refl _ | exact Up.fz _ _ _ | exact Up.nil _ | assumption), rfl⟩, ?_⟩)) (by repeat (first | exact trivial | refine ⟨⟨rfl, _, rfl, (by first | exact Ups.refl _ | assumption | (repeat (first | exact Ups.nil | refine Ups.cons (by first | exact Up.refl _ | exact Up.nil _ | exact Up.fz _ _ _) ?_))), rfl⟩, ?_⟩ | refine ⟨⟨rfl, rfl⟩, ?_⟩)) (by first | decide | simp) (Nat.zero_le _) (fun _ h => absurd h (Nat.not_lt_zero _))), by omega, k + 1, (y.1 ++ [tx], y.1.length + 1), y.1.length + 1, a ++ (b ++ rec8 tx), [], zo ++ [.slice .frozen tx.length (bs tx)], by omega, by rw [hst, es], by simp, ?_, ?_, e3, rfl, rfl, rfl, rfl⟩
      · show _ = cat8 ((y.1 ++ [tx]).take (y.1.length + 1))
        rw [List.take_of_length_le (by simp), cat8_app, ← wab y, ha, hb]
        simp [cat8]
      · show _ = cat8 ((y.1 ++ [tx]).drop (y.1.length + 1))
        rw [List.drop_of_length_le (by simp)]; rfl
    · have es : stW y ⟨rk, ra, rb, rs⟩ = (y.1 ++ [tx], y.2) := by unfold stW; rw [htx, if_neg (by rw [hu]; exact hu0)]
      repeat (first | with_reducible refine W_seq ?_ | with_reducible refine q_then ?_ | with_reducible refine q_thenr ?_ | with_reducible refine q_thenx ?_ | with_reducible refine W_block ?_ | with_reducible refine q_block ?_ | with_reducible refine q_blockr ?_ | with_reducible refine q_blockx ?_ | with_reducible refine W_ret ?_ | with_reducible refine W_skip ?_ | with_reducible refine W_label ?_ | with_reducible refine W_exit ?_ | with_reducible refine W_scope ?_ | with_reducible refine q_scope ?_ | with_reducible refine q_scoper ?_ | with_reducible refine q_scopex ?_ | (with_reducible refine R_nil ?_; try dsimp only [slots0, slots_ud, lg_all, lgn_all, rt_all, cells_U, agg_ud, drop0, dropS, takeS, take0, ud_nil, take_ud, take_ud0, drop_ud, drop_ud0, take_udk, D.cells, D.fz, D.fzs, List.take_succ_cons, List.take_zero, List.drop_succ_cons, List.drop_zero, List.cons_append, List.nil_append, List.append_eq, List.length_cons, List.length_nil, Nat.reduceAdd, Nat.reduceMul, Nat.reduceSub, Int.reduceAdd, Int.reduceSub, Int.reduceToNat, Int.reduceNeg, Int.reduceMul]) | refine q_blocky rfl ?_ | refine W_plain rfl ?_ | refine W_drawn mixed rfl ?_ | refine and_chk (by kernel_rfl) ?_ | refine k_move rfl rfl ?_ | refine k_assign rfl rfl ?_ | refine k_load rfl rfl rfl rfl ?_ | refine k_alloc rfl ?_ | refine k_box rfl rfl rfl ?_ | refine k_store rfl rfl rfl rfl rfl rfl rfl ?_ | refine k_extract rfl rfl rfl ?_ | refine k_fieldAddr rfl rfl rfl ?_ | refine k_field rfl rfl rfl ?_ | refine k_build rfl rfl rfl ?_ | refine k_indexAddrs rfl rfl rfl ⟨by omega, by omega⟩ hl.symm ?_ | refine k_loade rfl rfl (hcut _) ?_ | refine k_call rfl ct rfl rfl rfl rfl ?_ | refine k_s2b rfl Try.underlying9 Try.underlying5 rfl hs1 rfl ?_ | refine k_call rfl ap rfl rfl rfl rfl ?_ | refine k_call rfl pk rfl rfl rfl rfl ?_ | refine k_append rfl rfl rfl (by first | rfl | exact trivial | (show 0 < _; omega)) (by first | rfl | (simp <;> omega)) (by first | rfl | (simp <;> omega)) rfl (by omega) rfl rfl rfl ?_ | refine k_slice rfl rfl rfl rfl ⟨by omega, by omega, by omega⟩ rfl rfl rfl ?_ | refine k_slice3 rfl rfl rfl rfl rfl ⟨by omega, by omega, by omega⟩ rfl rfl rfl ?_ | refine k_sliceA rfl rfl rfl rfl ⟨by omega, by omega, by omega, by omega⟩ rfl rfl ?_ | refine k_sliceE rfl rfl rfl rfl ⟨by omega, by omega, by omega, by omega⟩ rfl rfl rfl rfl ?_ | refine k_buildSlice (cs := []) rfl rfl rfl rfl rfl rfl rfl ?_ | refine k_buildSlice rfl rfl rfl rfl rfl rfl rfl ?_ | refine k_indexAddr rfl rfl rfl ⟨by omega, by omega⟩ ?_ | refine k_indexAddrs rfl rfl rfl ⟨by omega, by omega⟩ rfl ?_ | refine k_index rfl rfl rfl ⟨by omega, by omega⟩ rfl ?_ | refine k_loade rfl rfl rfl ?_ | refine k_fieldAddre rfl rfl rfl rfl ?_ | refine k_len rfl rfl ?_ | refine k_nilCheck rfl rfl rfl ?_ | refine k_pickT rfl rfl rfl ?_ | refine k_pickF rfl rfl rfl ?_ | refine k_addi rfl rfl rfl (by omega) ?_ | refine k_subi rfl rfl rfl (by omega) ?_ | refine k_negi rfl rfl (by omega) ?_ | refine k_not rfl rfl rfl ?_ | refine k_lssT rfl rfl rfl (by omega) ?_ | refine k_lssF rfl rfl rfl (by omega) ?_ | refine k_leqT rfl rfl rfl (by omega) ?_ | refine k_leqF rfl rfl rfl (by omega) ?_ | refine k_gtrT rfl rfl rfl (by omega) ?_ | refine k_gtrF rfl rfl rfl (by omega) ?_ | refine k_geqT rfl rfl rfl (by omega) ?_ | refine k_geqF rfl rfl rfl (by omega) ?_ | refine k_eqlT rfl rfl rfl (by omega) ?_ | refine k_eqlF rfl rfl rfl (by omega) ?_ | refine k_neqT rfl rfl rfl (by omega) ?_ | refine k_neqF rfl rfl rfl (by omega) ?_ | refine k_eqa rfl rfl rfl rfl rfl rfl ?_ | refine k_nea rfl rfl rfl rfl rfl rfl ?_ | refine k_makeFunc rfl rfl rfl ?_ | refine k_skip rfl ?_ | refine k_skip0 rfl ?_ | refine k_pick rfl rfl rfl rfl rfl ?_ | refine W_yes rfl ?_ | refine W_no rfl ?_)
      refine ⟨z.length - (k + 1), _, _, _, (weak_ren (fun l => if l = 2 then 6 else l) (by repeat (first | exact trivial | refine ⟨⟨_, rfl, (by first | exact Up.refl _ | exact Up.fz _ _ _ | exact Up.nil _ | assumption), rfl⟩, ?_⟩)) (by repeat (first | exact trivial | refine ⟨⟨rfl, _, rfl, (by first | exact Ups.refl _ | assumption | (repeat (first | exact Ups.nil | refine Ups.cons (by first | exact Up.refl _ | exact Up.nil _ | exact Up.fz _ _ _) ?_))), rfl⟩, ?_⟩ | refine ⟨⟨rfl, rfl⟩, ?_⟩)) (by first | decide | simp) (Nat.zero_le _) (fun _ h => absurd h (Nat.not_lt_zero _))), by omega, k + 1, (y.1 ++ [tx], y.2), y.1.length + 1, a, b ++ rec8 tx, zo ++ [.slice .frozen tx.length (bs tx)], by omega, by rw [hst, es], by simp, ?_, ?_, e3, rfl, rfl, rfl, rfl⟩
      · show _ = cat8 ((y.1 ++ [tx]).take y.2)
        rw [e1, ha]
      · show _ = cat8 ((y.1 ++ [tx]).drop y.2)
        rw [e2, cat8_app, hb]; simp [cat8]
  · have ek : k = z.length := by omega
    subst ek
    rw [List.take_length, hx] at hy
    subst hy; subst ha; subst hb; subst hzo
    repeat (first | with_reducible refine W_seq ?_ | with_reducible refine q_then ?_ | with_reducible refine q_thenr ?_ | with_reducible refine q_thenx ?_ | with_reducible refine W_block ?_ | with_reducible refine q_block ?_ | with_reducible refine q_blockr ?_ | with_reducible refine q_blockx ?_ | with_reducible refine W_ret ?_ | with_reducible refine W_skip ?_ | with_reducible refine W_label ?_ | with_reducible refine W_exit ?_ | with_reducible refine W_scope ?_ | with_reducible refine q_scope ?_ | with_reducible refine q_scoper ?_ | with_reducible refine q_scopex ?_ | (with_reducible refine R_nil ?_; try dsimp only [slots0, slots_ud, lg_all, lgn_all, rt_all, cells_U, agg_ud, drop0, dropS, takeS, take0, ud_nil, take_ud, take_ud0, drop_ud, drop_ud0, take_udk, D.cells, D.fz, D.fzs, List.take_succ_cons, List.take_zero, List.drop_succ_cons, List.drop_zero, List.cons_append, List.nil_append, List.append_eq, List.length_cons, List.length_nil, Nat.reduceAdd, Nat.reduceMul, Nat.reduceSub, Int.reduceAdd, Int.reduceSub, Int.reduceToNat, Int.reduceNeg, Int.reduceMul]) | refine q_blocky rfl ?_ | refine W_plain rfl ?_ | refine W_drawn mixed rfl ?_ | refine and_chk (by kernel_rfl) ?_ | refine k_move rfl rfl ?_ | refine k_assign rfl rfl ?_ | refine k_load rfl rfl rfl rfl ?_ | refine k_alloc rfl ?_ | refine k_box rfl rfl rfl ?_ | refine k_store rfl rfl rfl rfl rfl rfl rfl ?_ | refine k_extract rfl rfl rfl ?_ | refine k_fieldAddr rfl rfl rfl ?_ | refine k_field rfl rfl rfl ?_ | refine k_build rfl rfl rfl ?_ | refine W_unroll (WL_round ?_) | refine WL_round ?_ | refine k_append rfl rfl rfl (by first | rfl | exact trivial | (show 0 < _; omega)) (by first | rfl | (simp <;> omega)) (by first | rfl | (simp <;> omega)) rfl (by omega) rfl rfl rfl ?_ | refine k_slice rfl rfl rfl rfl ⟨by omega, by omega, by omega⟩ rfl rfl rfl ?_ | refine k_slice3 rfl rfl rfl rfl rfl ⟨by omega, by omega, by omega⟩ rfl rfl rfl ?_ | refine k_sliceA rfl rfl rfl rfl ⟨by omega, by omega, by omega, by omega⟩ rfl rfl ?_ | refine k_sliceE rfl rfl rfl rfl ⟨by omega, by omega, by omega, by omega⟩ rfl rfl rfl rfl ?_ | refine k_buildSlice (cs := []) rfl rfl rfl rfl rfl rfl rfl ?_ | refine k_buildSlice rfl rfl rfl rfl rfl rfl rfl ?_ | refine k_indexAddr rfl rfl rfl ⟨by omega, by omega⟩ ?_ | refine k_indexAddrs rfl rfl rfl ⟨by omega, by omega⟩ rfl ?_ | refine k_index rfl rfl rfl ⟨by omega, by omega⟩ rfl ?_ | refine k_loade rfl rfl rfl ?_ | refine k_fieldAddre rfl rfl rfl rfl ?_ | refine k_len rfl rfl ?_ | refine k_nilCheck rfl rfl rfl ?_ | refine k_pickT rfl rfl rfl ?_ | refine k_pickF rfl rfl rfl ?_ | refine k_addi rfl rfl rfl (by omega) ?_ | refine k_subi rfl rfl rfl (by omega) ?_ | refine k_negi rfl rfl (by omega) ?_ | refine k_not rfl rfl rfl ?_ | refine k_lssT rfl rfl rfl (by omega) ?_ | refine k_lssF rfl rfl rfl (by omega) ?_ | refine k_leqT rfl rfl rfl (by omega) ?_ | refine k_leqF rfl rfl rfl (by omega) ?_ | refine k_gtrT rfl rfl rfl (by omega) ?_ | refine k_gtrF rfl rfl rfl (by omega) ?_ | refine k_geqT rfl rfl rfl (by omega) ?_ | refine k_geqF rfl rfl rfl (by omega) ?_ | refine k_eqlT rfl rfl rfl (by omega) ?_ | refine k_eqlF rfl rfl rfl (by omega) ?_ | refine k_neqT rfl rfl rfl (by omega) ?_ | refine k_neqF rfl rfl rfl (by omega) ?_ | refine k_eqa rfl rfl rfl rfl rfl rfl ?_ | refine k_nea rfl rfl rfl rfl rfl rfl ?_ | refine k_makeFunc rfl rfl rfl ?_ | refine k_skip rfl ?_ | refine k_skip0 rfl ?_ | refine k_pick rfl rfl rfl rfl rfl ?_ | refine W_yes rfl ?_ | refine W_no rfl ?_)
    (first | with_reducible refine q_endr ?_ | with_reducible refine q_endn ?_); refine rets4 Try.results16 (by first | exact RetV.tmp _ _ rfl | exact RetV.cell _ _ _ _ _ _ _ _ inferInstance rfl rfl rfl) (by first | exact RetV.tmp _ _ rfl | exact RetV.cell _ _ _ _ _ _ _ _ inferInstance rfl rfl rfl) (by first | exact RetV.tmp _ _ rfl | exact RetV.cell _ _ _ _ _ _ _ _ inferInstance rfl rfl rfl) (by first | exact RetV.tmp _ _ rfl | exact RetV.cell _ _ _ _ _ _ _ _ inferInstance rfl rfl rfl) ?_ ?_ ?_ ?_
    all_goals rfl
end Go.Proofs.Ytokijcdanegooaa
