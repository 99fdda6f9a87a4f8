/- GuardFallen: who falls while it writes down a message has met it then, or hasn't; nothing between. No conditions. -/
import Derived.Test.YtcfefmbbbfdppaaSGu15
import Derived.Test.YtcfefmbbbfdppaaSGu14
import Derived.Test.YtcfefmbbbfdppaaSRowS
namespace Go.Proofs.Ytcfefmbbbfdppaa.guardFallen
open Go.ChangeShapes Go.WideShapes Go.RowKit Go.Joins Go.Lib Go.IntWalk
set_option linter.unusedVariables false
open Go.Proofs.Ytcfefmbbbfdppaa
set_option maxRecDepth 100000
theorem meet_apart (x : GuT) (b : BodyT) (am : Nat) : (x.meet b am).g.now = x.g.now ∧ ((x.meet b am).g.past.length ≠ x.g.past.length ∨ ((x.meet b am).g.past = x.g.past ∧ (x.meet b am).g.queue.length ≠ x.g.queue.length)) := by
  unfold GuT.meet GuT.take
  split
  · refine ⟨rfl, .inl ?_⟩
    show (x.g.past ++ [qOf x b am]).length ≠ _
    rw [List.length_append]; simp
  · refine ⟨rfl, .inr ⟨rfl, ?_⟩⟩
    show (x.g.queue ++ [qOf x b am]).length ≠ _
    rw [List.length_append]; simp
set_option maxHeartbeats 16000000 in
theorem last (k a b : Int) (s : ByteArray) (rk ra rb : Int) (rs : ByteArray) (keep : Int) (l : List RawT) (x w h : GuT) (bd : BodyT) (hbe : bd.e.length = 32)
    (hlv : Pur Try.prog 6 [.agg [.int .i64 k, .int .i64 a, .int .i64 b, .str s], .slice .frozen l.length (rws l), .int .i64 12] (.tup [.agg x.cells, .bool true]))
    (hms : Pur Try.prog 14 [.int .i64 20, .agg [.int .i64 rk, .int .i64 ra, .int .i64 rb, .str rs]] (.agg bd.cells))
    (hse : Pur Try.prog 15 [.agg x.cells, .slice .frozen 1 (bdC [bd])] (.tup [.agg w.cells, .int .i64 1]))
    (hf1 : Pur Try.prog 16 [.agg x.cells, .agg bd.cells, .int .i64 keep] (.tup [.agg h.cells, .int .i64 0]))
    (hf2 : Pur Try.prog 16 [.agg x.cells, .agg bd.cells, .int .i64 1000] (.tup [.agg w.cells, .int .i64 0]))
    (hf3 : Pur Try.prog 16 [.agg x.cells, .agg bd.cells, .int .i64 0] (.tup [.agg x.cells, .int .i64 0]))
    (c : Bool) (hs1 : Pur Try.prog 13 [.agg h.cells, .agg x.cells] (.bool c)) (hs2 : c = false → Pur Try.prog 13 [.agg h.cells, .agg w.cells] (.bool true))
    (hs3 : Pur Try.prog 13 [.agg w.cells, .agg w.cells] (.bool true)) (hs4 : Pur Try.prog 13 [.agg x.cells, .agg x.cells] (.bool true)) :
    Pur Try.prog 5 [.agg [.int .i64 k, .int .i64 a, .int .i64 b, .str s], .slice .frozen l.length (rws l), .agg [.int .i64 rk, .int .i64 ra, .int .i64 rb, .str rs], .int .i64 keep] (.bool true) := by
  have hgt := guardTells_ok
  have hball := bd_all hbe
  have hbput := bd_put hbe
  have hbl := bd_len hbe
  have hb38 : (D.agg bd.cells).cells.length = 38 := hbl
  have hbc := bd_cls bd
  have hbfz := bd_fz bd
  have hbfz1 : D.fzs bd.cells = bd.cells := by have := hbfz; simpa [D.fzs, D.fz] using this
  have hbf := (one_fill _ hbe).trans (congrArg some (bdC_one _).symm)
  have hbc1 : (D.agg bd.cells).cl = true := hbc
  have hzc : D.cls (bdC [bd]) = true := bdC_cls _
  have hzf : D.fzs (bdC [bd]) = bdC [bd] := bdC_fzs _
  have hx2 : ∀ (z : List D) (q : Int), D.fzs z = z → D.fzs [D.agg z, D.agg bd.cells, .int .i64 q] = [D.agg z, D.agg bd.cells, .int .i64 q] := fun z q hz => by
    show [D.agg (D.fzs z), D.agg (D.fzs bd.cells), _] = _; rw [hz, hbfz1]; rfl
  have hcl2 : ∀ (z : List D) (q : Int), D.cls z = true → D.cls [D.agg z, D.agg bd.cells, .int .i64 q] = true := fun z q hz => by
    show (D.cls z && (D.cls bd.cells && (true && true))) = true; rw [hz, hbc]; rfl
  generalize bdC [bd] = zb at *
  generalize bd.cells = bc at *
  unfold GuT.cells guC bD mD at *
  generalize rws l = zl at *
  generalize bdC x.hd = x1 at *
  generalize bdC x.dn = x2 at *
  generalize bs x.la = x3 at *
  generalize bs x.si = x4 at *
  generalize qsC x.f.past = x5 at *
  generalize qsC x.f.queue = x6 at *
  generalize qsC x.g.past = x7 at *
  generalize qsC x.g.queue = x8 at *
  generalize bdC w.hd = w1 at *
  generalize bdC w.dn = w2 at *
  generalize bs w.la = w3 at *
  generalize bs w.si = w4 at *
  generalize qsC w.f.past = w5 at *
  generalize qsC w.f.queue = w6 at *
  generalize qsC w.g.past = w7 at *
  generalize qsC w.g.queue = w8 at *
  generalize bdC h.hd = h1 at *
  generalize bdC h.dn = h2 at *
  generalize bs h.la = h3 at *
  generalize bs h.si = h4 at *
  generalize qsC h.f.past = h5 at *
  generalize qsC h.f.queue = h6 at *
  generalize qsC h.g.past = h7 at *
  generalize qsC h.g.queue = h8 at *
  cases c with
  | true =>
    clear hs2
    refine pur_intro Try.func5 rfl Try.ntmps5 rfl (by first | rfl | assumption | exact bs_cl _) fun B => ?_
    repeat (first | with_reducible (first | refine W_seq ?_ | refine q_then ?_ | refine W_ret ?_) | (with_reducible refine R_nil ?_; try dsimp only [slots0, slots_ud, cells_U, agg_ud, drop0, dropS, takeS, take0, ud_nil, take_ud, take_ud0, drop_ud, drop_ud0, take_udk, D.cells, D.fz, D.fzs, List.take_succ_cons, List.take_zero, List.drop_succ_cons, List.drop_zero, List.cons_append, List.nil_append, List.append_eq, List.length_cons, List.length_nil, Nat.reduceAdd, Nat.reduceMul, Nat.reduceSub, Int.reduceAdd, Int.reduceSub, Int.reduceToNat, Int.reduceNeg, Int.reduceMul]) | refine W_plain rfl ?_ | refine and_chk (by kernel_rfl) ?_ | refine k_store rfl rfl rfl rfl (by exact hb38) rfl (by exact hbput _ rfl) ?_ | refine k_load rfl rfl rfl (hball _) ?_ | refine k_buildSlice rfl rfl hbf hzf hzc rfl rfl ?_ | refine k_move rfl rfl ?_ | refine k_assign rfl rfl ?_ | refine k_load rfl rfl rfl rfl ?_ | refine k_alloc rfl ?_ | refine k_box rfl rfl rfl ?_ | refine k_store rfl rfl rfl rfl rfl rfl rfl ?_ | refine k_extract rfl rfl rfl ?_ | refine k_call rfl hlv rfl rfl rfl rfl ?_ | refine k_call rfl hms rfl rfl rfl hbc1 ?_ | refine k_call rfl hse rfl rfl rfl rfl ?_ | refine k_call rfl hf1 rfl (by exact hx2 _ _ rfl) (by exact hcl2 _ _ rfl) rfl ?_ | refine k_call rfl hf2 rfl (by exact hx2 _ _ rfl) (by exact hcl2 _ _ rfl) rfl ?_ | refine k_call rfl hf3 rfl (by exact hx2 _ _ rfl) (by exact hcl2 _ _ rfl) rfl ?_ | refine k_call rfl hgt rfl rfl rfl rfl ?_ | refine k_call rfl hs1 rfl rfl rfl rfl ?_ | refine k_call rfl hs3 rfl rfl rfl rfl ?_ | refine k_call rfl hs4 rfl rfl rfl rfl ?_ | (refine k_append rfl rfl rfl ?_ ?_ ?_ rfl ?_ rfl rfl rfl ?_; (first | rfl | exact trivial | (show 0 < _; omega)); (first | rfl | (simp <;> omega)); (first | rfl | (simp <;> omega)); (omega)) | refine k_buildSlice (cs := []) rfl rfl rfl rfl rfl rfl rfl ?_ | refine k_buildSlice rfl rfl rfl rfl rfl rfl rfl ?_ | refine k_pickT rfl rfl rfl ?_ | refine k_pickF rfl rfl rfl ?_ | (refine k_eqlT rfl rfl rfl ?_ ?_; (omega)) | refine k_skip rfl ?_)
    (first | with_reducible refine q_endr ?_); refine rets1 Try.results5 (by first | exact RetV.tmp _ _ rfl | exact RetV.cell _ _ _ _ _ _ _ _ inferInstance rfl rfl rfl) ?_
    rfl
  | false =>
    have hs2 := hs2 rfl
    refine pur_intro Try.func5 rfl Try.ntmps5 rfl (by first | rfl | assumption | exact bs_cl _) fun B => ?_
    repeat (first | with_reducible (first | refine W_seq ?_ | refine q_then ?_ | refine W_ret ?_) | (with_reducible refine R_nil ?_; try dsimp only [slots0, slots_ud, cells_U, agg_ud, drop0, dropS, takeS, take0, ud_nil, take_ud, take_ud0, drop_ud, drop_ud0, take_udk, D.cells, D.fz, D.fzs, List.take_succ_cons, List.take_zero, List.drop_succ_cons, List.drop_zero, List.cons_append, List.nil_append, List.append_eq, List.length_cons, List.length_nil, Nat.reduceAdd, Nat.reduceMul, Nat.reduceSub, Int.reduceAdd, Int.reduceSub, Int.reduceToNat, Int.reduceNeg, Int.reduceMul]) | refine W_plain rfl ?_ | refine and_chk (by kernel_rfl) ?_ | refine k_store rfl rfl rfl rfl (by exact hb38) rfl (by exact hbput _ rfl) ?_ | refine k_load rfl rfl rfl (hball _) ?_ | refine k_buildSlice rfl rfl hbf hzf hzc rfl rfl ?_ | refine k_move rfl rfl ?_ | refine k_assign rfl rfl ?_ | refine k_load rfl rfl rfl rfl ?_ | refine k_alloc rfl ?_ | refine k_box rfl rfl rfl ?_ | refine k_store rfl rfl rfl rfl rfl rfl rfl ?_ | refine k_extract rfl rfl rfl ?_ | refine k_call rfl hlv rfl rfl rfl rfl ?_ | refine k_call rfl hms rfl rfl rfl hbc1 ?_ | refine k_call rfl hse rfl rfl rfl rfl ?_ | refine k_call rfl hf1 rfl (by exact hx2 _ _ rfl) (by exact hcl2 _ _ rfl) rfl ?_ | refine k_call rfl hf2 rfl (by exact hx2 _ _ rfl) (by exact hcl2 _ _ rfl) rfl ?_ | refine k_call rfl hf3 rfl (by exact hx2 _ _ rfl) (by exact hcl2 _ _ rfl) rfl ?_ | refine k_call rfl hgt rfl rfl rfl rfl ?_ | refine k_call rfl hs1 rfl rfl rfl rfl ?_ | refine k_call rfl hs2 rfl rfl rfl rfl ?_ | refine k_call rfl hs3 rfl rfl rfl rfl ?_ | refine k_call rfl hs4 rfl rfl rfl rfl ?_ | (refine k_append rfl rfl rfl ?_ ?_ ?_ rfl ?_ rfl rfl rfl ?_; (first | rfl | exact trivial | (show 0 < _; omega)); (first | rfl | (simp <;> omega)); (first | rfl | (simp <;> omega)); (omega)) | refine k_buildSlice (cs := []) rfl rfl rfl rfl rfl rfl rfl ?_ | refine k_buildSlice rfl rfl rfl rfl rfl rfl rfl ?_ | refine k_pickT rfl rfl rfl ?_ | refine k_pickF rfl rfl rfl ?_ | (refine k_eqlT rfl rfl rfl ?_ ?_; (omega)) | refine k_skip rfl ?_)
    (first | with_reducible refine q_endr ?_); refine rets1 Try.results5 (by first | exact RetV.tmp _ _ rfl | exact RetV.cell _ _ _ _ _ _ _ _ inferInstance rfl rfl rfl) ?_
    rfl
theorem pur (k a b : Int) (s : ByteArray) (l : List RawT) (rk ra rb : Int) (rs : ByteArray) (keep : Int) : Pur Try.prog 5 [.agg [.int .i64 k, .int .i64 a, .int .i64 b, .str s], .slice .frozen l.length (rws l), .agg [.int .i64 rk, .int .i64 ra, .int .i64 rb, .str rs], .int .i64 keep] (.bool true) := by
  have hl : (l.take 12).length ≤ 12 := by rw [List.length_take]; omega
  have hlv := lived_ok k a b s l 12 (by decide)
  have hg := gof_start a b
  have hi := lv_inv (gofG a b) hg (l.take 12) (l.take 12).length (Nat.le_refl _) (by omega)
  obtain ⟨r1, r2, r3⟩ := lv_ran (gofG a b) hg (l.take 12) (l.take 12).length (Nat.le_refl _) (by omega)
  have hsl : ∀ j, j ≤ (l.take 12).length → (stl (l.take 12) j).length = j := by
    intro j
    induction j with
    | zero => intro _; rfl
    | succ j ih => intro hj; rw [stl_step _ j _ (List.getElem?_eq_getElem (by omega)), List.length_append, ih (by omega)]; rfl
  have hsl := hsl _ (Nat.le_refl _)
  generalize lv (gofG a b) (l.take 12) (l.take 12).length = x at *
  generalize stl (l.take 12) (l.take 12).length = st at *
  generalize gofG a b = g at *
  have hla := hi.la
  have hi20 := hi.up 20 (by omega)
  have hms := message_ok 20 (by decide) rk ra rb rs
  have hmo := msg_ok 20 (by decide) ⟨rk, ra, rb, rs⟩
  have hol := msg_outlen ⟨rk, ra, rb, rs⟩ 20 (by decide)
  obtain ⟨a1, a2, a3, a4, a5⟩ := hi20.new ⟨rk, ra, rb, rs⟩ (by decide)
  have hc3 : (msgB 20 ⟨rk, ra, rb, rs⟩).c < 3 := by show (rk % 3).toNat < 3; omega
  have hwo := msg_wor 20 ⟨rk, ra, rb, rs⟩
  have hcm := hi20.bare.canm (by decide) ⟨rk, ra, rb, rs⟩
  have hmt := meet_new x hi.ok (msgB 20 ⟨rk, ra, rb, rs⟩) hmo hc3 (by show 20 < 256; decide) (msgA ⟨rk, ra, rb, rs⟩) hwo a1 a3 a4 a5 hi.si a2 188 hol (by decide) (by omega)
  have hwok := (hi20.meet ⟨rk, ra, rb, rs⟩ (by decide)).ok
  have hap := meet_apart x (msgB 20 ⟨rk, ra, rb, rs⟩) (msgA ⟨rk, ra, rb, rs⟩)
  have hwl : (x.meet (msgB 20 ⟨rk, ra, rb, rs⟩) (msgA ⟨rk, ra, rb, rs⟩)).la = x.la ++ rec8 (1 :: (msgB 20 ⟨rk, ra, rb, rs⟩).out) := by
    unfold GuT.meet GuT.take; split <;> rfl
  have hwb : (x.meet (msgB 20 ⟨rk, ra, rb, rs⟩) (msgA ⟨rk, ra, rb, rs⟩)).bare = x.bare.take (msgB 20 ⟨rk, ra, rb, rs⟩) (msgA ⟨rk, ra, rb, rs⟩) := by
    unfold GuT.meet GuT.take
    by_cases h : x.g.fits (qOf x (msgB 20 ⟨rk, ra, rb, rs⟩) (msgA ⟨rk, ra, rb, rs⟩)) = true
    · have h' : x.bare.g.fits (qOf x.bare (msgB 20 ⟨rk, ra, rb, rs⟩) (msgA ⟨rk, ra, rb, rs⟩)) = true := h
      rw [if_pos h, if_pos h']; rfl
    · have h' : ¬ x.bare.g.fits (qOf x.bare (msgB 20 ⟨rk, ra, rb, rs⟩) (msgA ⟨rk, ra, rb, rs⟩)) = true := h
      rw [if_neg h, if_neg h']; rfl
  have hse : Pur Try.prog 15 [.agg x.cells, .slice .frozen 1 (bdC [msgB 20 ⟨rk, ra, rb, rs⟩])] (.tup [.agg (x.meet (msgB 20 ⟨rk, ra, rb, rs⟩) (msgA ⟨rk, ra, rb, rs⟩)).cells, .int .i64 1]) := by
    exact See_ok _ hi.ok [msgB 20 ⟨rk, ra, rb, rs⟩] (fun b hb => by rw [List.mem_singleton.1 hb]; exact hmo) 1 rfl (by decide) (fun k => if k = 0 then (x, 0) else (x.meet (msgB 20 ⟨rk, ra, rb, rs⟩) (msgA ⟨rk, ra, rb, rs⟩), 1)) rfl (fun k b hb => by
      match k, hb with
      | 0, hb =>
        obtain rfl : msgB 20 ⟨rk, ra, rb, rs⟩ = b := by simpa using hb
        exact ⟨true, hmt, fun _ => rfl, fun h => by cases h⟩
      | k + 1, hb => simp at hb)
  generalize msgA ⟨rk, ra, rb, rs⟩ = am at *
  generalize msgB 20 ⟨rk, ra, rb, rs⟩ = bd at *
  have hrl : (rec8 (1 :: bd.out)).length = 192 := by rw [rec8_len, List.length_cons, hol]
  have hr9 : (1 :: bd.out).length ≤ 200 := by rw [List.length_cons, hol]; decide
  have hxf : x.f = g := hi.f
  have hxo : (ran g st).ok := by rw [← r1]; exact hi.bare.ok
  have hx : GuT.mk (ran g st).f (ran g st).g x.la [] (ran g st).hd (ran g st).dn = x := by
    rw [← r1]
    have := hi.si
    cases x
    simp only [GuT.bare] at *
    rw [this]
  have hfst : ∀ K, K < 192 → Pur Try.prog 11 [u5, .agg x.f.cells, .agg (lgn (x.la ++ (rec8 (1 :: bd.out)).take K))] (.tup [.agg x.cells, .int .i64 0]) := fun K hK => by
    have hal : (x.la ++ (rec8 (1 :: bd.out)).take K).length ≤ 9000 := by rw [List.length_append, List.length_take]; omega
    have hag := Again_ok g hg.ok st r3 (by omega) (x.la ++ (rec8 (1 :: bd.out)).take K) hal x.la r2.symm (by omega) (by rw [r2]; exact opn_fall _ r3.small _ hr9 K (by omega)) List.take_left hxo
    rw [hx] at hag
    rw [hxf]
    exact pur_ups hag (.cons (.refl _) (.cons (.refl _) (.cons (.agg_ (lgn_ups _)) .nil)))
  have hlst : ∀ K, 192 ≤ K → Pur Try.prog 11 [u5, .agg x.f.cells, .agg (lgn (x.la ++ (rec8 (1 :: bd.out)).take K))] (.tup [.agg (x.meet bd am).cells, .int .i64 0]) := fun K hK => by
    rw [List.take_of_length_le (by omega)]
    rw [← r1] at hxo
    have hr3 : Cans g (st ++ [.m bd am]) := r3.snoc (by rw [← r1]; exact hcm) (by rw [← r1]; exact hxo)
    have hrr : cat8 (recs (st ++ [.m bd am])) = x.la ++ rec8 (1 :: bd.out) := by
      unfold recs
      rw [List.map_append, cat8_app, List.map_cons, List.map_nil, cat8_one, r2]; rfl
    have hrn : ran g (st ++ [.m bd am]) = (x.meet bd am).bare := by rw [ran_snoc, ← r1, hwb]; rfl
    have hal : (x.la ++ rec8 (1 :: bd.out)).length ≤ 9000 := by rw [List.length_append]; omega
    have hag := Again_ok g hg.ok (st ++ [.m bd am]) hr3 (by rw [List.length_append, List.length_singleton]; omega) (x.la ++ rec8 (1 :: bd.out)) hal (x.la ++ rec8 (1 :: bd.out)) hrr hal (by rw [← hrr]; exact opn_all _ hr3.small) List.take_length (by rw [hrn]; exact ⟨hwok.f, hwok.g, Nat.zero_le _, hwok.hd, hwok.dn⟩)
    rw [hrn] at hag
    have hy : GuT.mk (x.meet bd am).bare.f (x.meet bd am).bare.g (x.la ++ rec8 (1 :: bd.out)) [] (x.meet bd am).bare.hd (x.meet bd am).bare.dn = x.meet bd am := by
      rw [← hwl]; rfl
    rw [hy] at hag
    rw [hxf]
    exact pur_ups hag (.cons (.refl _) (.cons (.refl _) (.cons (.agg_ (lgn_ups _)) .nil)))
  have fall := fun (k : Int) (K : Nat) (hK : min (max k 0) ((192 : Nat) : Int) = K) (hK4 : K ≤ 192) (y : GuT) hag => Fall_ok x hi.si bd hmo am 188 hol (by decide) (by omega) hmt k K hK hK4 y hag
  have hf2 := fall 1000 192 (by decide) (Nat.le_refl _) _ (hlst 192 (Nat.le_refl _))
  have hf3 := fall 0 0 (by decide) (Nat.zero_le _) _ (hfst 0 (by decide))
  have hs3 := sGuard_ok _ hwok
  have hs4 := sGuard_ok x hi.ok
  obtain ⟨K, hK⟩ : ∃ K : Nat, min (max keep 0) ((192 : Nat) : Int) = K := ⟨(min (max keep 0) ((192 : Nat) : Int)).toNat, by omega⟩
  by_cases hKl : K < 192
  · exact last k a b s rk ra rb rs keep l x _ x bd hmo.e hlv hms hse (fall keep K hK (by omega) _ (hfst K hKl)) hf2 hf3 true hs4 (fun h => by cases h) hs3 hs4
  · have hs1 := sGuard_no (x.meet bd am) x hwok hi.ok hap.1 hap.2
    exact last k a b s rk ra rb rs keep l x _ _ bd hmo.e hlv hms hse (fall keep K hK (by omega) _ (hlst K (by omega))) hf2 hf3 false hs1 (fun _ => hs3) hs3 hs4
theorem walk {w : World} {v : Value} (l : List RawT) (hok : ∀ x ∈ l, x.ok) (hr : Rep (bare (allhw w)) w (.slice .frozen l.length (rws l)) v) (k a b : Int) (s : ByteArray) (rk ra rb : Int) (rs : ByteArray) (keep : Int) : Calls Try.prog 5 #[.agg #[.int .i64 k, .int .i64 a, .int .i64 b, .string s], v, .agg #[.int .i64 rk, .int .i64 ra, .int .i64 rb, .string rs], .int .i64 keep] w fun e w' => e = .returned (.bool true) ∧ New w w' :=
  calls_of_purS (pur k a b s l rk ra rb rs keep) (.cons (rep_raw _ _ _ _ _ _) (.cons hr (.cons (rep_raw _ _ _ _ _ _) (.cons (.int _ _) .nil))))
set_option maxRecDepth 100000 in
theorem lifted (os : Os) (started : os.Started) (H : Type) (enc : TypeId × Value → H) :
    ReturnsInHanded {} Try.checked os 5 .any (Rows.guardFallenSpec.pre6 enc Try.prog Try.f5 Rows.guardFallenRow.domain false) (Rows.guardFallenSpec.post enc Try.prog Try.f5 false true false false) := by
  refine returnsInHanded_of_change (C := Try.checked) own started (by kernel_rfl) Try.func5
    (ChangeSpec.witness6 (enc := enc) (C := Try.checked) false ⟨#[], #[.agg #[.int .i64 0, .int .i64 0, .int .i64 0, .string ⟨#[]⟩], .slice none 0 0, .agg #[.int .i64 0, .int .i64 0, .int .i64 0, .string ⟨#[]⟩], .int .i64 0], []⟩ 8 (by kernel_rfl) (by kernel_rfl) (by kernel_rfl) (by kernel_rfl)) ?_
  intro W base args ds gs before hval0 hW hcnd _
  have hval : ∀ (j : Nat) t v, Try.f5.params[j]? = some t → args[j]? = some v → Value.okWide Try.prog W .any base t v := hval0
  have hW' := hW
  obtain ⟨p, q, hA0, hV, rfl, hfz, hnd⟩ := hW
  have hA : DataW.TrodAll enc Try.prog W 0 (fun _ => true) true Try.f5.params.toList args.toList ds p := hA0
  rw [Try.params5] at hA hval
  obtain ⟨v0, vs0, d0, ds0, p0, q0, hargs, rfl, rfl, h0, r0⟩ := trodAll_cons hA
  obtain ⟨v1, vs1, d1, ds1, p1, q1, rfl, rfl, rfl, h1, r1⟩ := trodAll_cons r0
  obtain ⟨v2, vs2, d2, ds2, p2, q2, rfl, rfl, rfl, h2, r2⟩ := trodAll_cons r1
  obtain ⟨v3, vs3, d3, ds3, p3, q3, rfl, rfl, rfl, h3, r3⟩ := trodAll_cons r2
  obtain ⟨rfl, rfl, rfl⟩ := trodAll_nil r3
  obtain rfl : args = #[v0, v1, v2, v3] := by cases args; simp_all
  obtain ⟨rfl, rfl⟩ := trodVars_none hV
  obtain ⟨k1, a1, b1, s1, rfl, wk1, wa1, wb1, ws1⟩ := open_raw (hval 0 23 v0 rfl rfl) h0
  obtain ⟨l2, wl2, hl2⟩ := open_raws (hval 1 24 v1 rfl rfl) h1
  obtain ⟨k3, a3, b3, s3, rfl, wk3, wa3, wb3, ws3⟩ := open_raw (hval 2 23 v2 rfl rfl) h2
  obtain ⟨n4, rfl, rfl, rfl, wn4⟩ := open_int Try.underlying3 (hval 3 3 v3 rfl rfl) h3
  refine (walk l2 wl2 hl2 k1 a1 b1 s1 k3 a3 b3 s3 n4).mono fun e W' ⟨he, hN⟩ => ?_
  subst he
  exact ⟨_, rfl, law_post laidOut (by kernel_rfl) (by kernel_rfl) Try.underlying4 rfl hW' rfl hN⟩
theorem holds : Rows.GuardFallenSaid :=
  OpenClaim.holds_of_wide 5 Try.f5 rfl rfl rfl rfl rfl rfl rfl ⟨rfl, rfl, rfl, rfl, rfl⟩ rfl rfl rfl rfl rfl (by kernel_rfl) Try.func5 (by kernel_rfl)
    (of_decide_eq_true (by kernel_rfl)) (by unfold Func.isWrapper; first | (rw [if_pos (by decide +kernel)]; kernel_rfl) | (rw [if_neg (by decide +kernel)]; exact ⟨rfl, rfl⟩))
    (fun os started H enc _ => lifted os started H enc)
#print axioms holds
end Go.Proofs.Ytcfefmbbbfdppaa.guardFallen
