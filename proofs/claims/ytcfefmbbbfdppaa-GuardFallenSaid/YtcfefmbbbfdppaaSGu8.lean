/- guard: the laws' messages. No conditions. -/
import Derived.Test.YtcfefmbbbfdppaaSGu7
import Derived.Test.YtcfefmbbbfdppaaSGn
import Derived.Test.YtcfefmbbbfdppaaSRowS
import Derived.Test.YtcfefmbbbfdppaaSLoad15
namespace Go.Proofs.Ytcfefmbbbfdppaa
open Go.RowKit Go.Lib Go.IntWalk
set_option linter.unusedVariables false
set_option maxRecDepth 100000
def w32 (a b : UInt8) : List UInt8 := a :: (List.replicate 30 0 ++ [b])
theorem mToken_ok : Pur Try.prog 31 [.int .i64 0] (.agg (bs (w32 116 0))) := by
  refine pur_intro Try.func31 rfl Try.ntmps31 rfl (by first | rfl | assumption | exact bs_cl _) fun B => ?_
  repeat (first | with_reducible (first | refine W_seq ?_ | refine q_then ?_ | refine W_ret ?_) | (with_reducible refine R_nil ?_; try dsimp only [slots0, slots_ud, cells_U, agg_ud, drop0, dropS, takeS, take0, ud_nil, take_ud, take_ud0, drop_ud, drop_ud0, take_udk, D.cells, D.fz, D.fzs, List.take_succ_cons, List.take_zero, List.drop_succ_cons, List.drop_zero, List.cons_append, List.nil_append, List.append_eq, List.length_cons, List.length_nil, Nat.reduceAdd, Nat.reduceMul, Nat.reduceSub, Int.reduceAdd, Int.reduceSub, Int.reduceToNat, Int.reduceNeg, Int.reduceMul]) | refine W_plain rfl ?_ | refine and_chk (by kernel_rfl) ?_ | refine k_move rfl rfl ?_ | refine k_load rfl rfl rfl rfl ?_ | refine k_alloc rfl ?_ | refine k_store rfl rfl rfl rfl rfl rfl rfl ?_ | refine k_conv rfl rfl rfl ?_ | (refine k_indexAddr rfl rfl rfl ⟨?_, ?_⟩ ?_; (omega); (omega)))
  (first | with_reducible refine q_endr ?_); refine rets1 Try.results31 (by first | exact RetV.tmp _ _ rfl | exact RetV.cell _ _ _ _ _ _ _ _ inferInstance rfl rfl rfl) ?_
  rfl
theorem mEmit_ok : Pur Try.prog 33 [.int .i64 0] (.agg (bs (w32 176 0))) := by
  refine pur_intro Try.func33 rfl Try.ntmps33 rfl (by first | rfl | assumption | exact bs_cl _) fun B => ?_
  repeat (first | with_reducible (first | refine W_seq ?_ | refine q_then ?_ | refine W_ret ?_) | (with_reducible refine R_nil ?_; try dsimp only [slots0, slots_ud, cells_U, agg_ud, drop0, dropS, takeS, take0, ud_nil, take_ud, take_ud0, drop_ud, drop_ud0, take_udk, D.cells, D.fz, D.fzs, List.take_succ_cons, List.take_zero, List.drop_succ_cons, List.drop_zero, List.cons_append, List.nil_append, List.append_eq, List.length_cons, List.length_nil, Nat.reduceAdd, Nat.reduceMul, Nat.reduceSub, Int.reduceAdd, Int.reduceSub, Int.reduceToNat, Int.reduceNeg, Int.reduceMul]) | refine W_plain rfl ?_ | refine and_chk (by kernel_rfl) ?_ | refine k_move rfl rfl ?_ | refine k_load rfl rfl rfl rfl ?_ | refine k_alloc rfl ?_ | refine k_store rfl rfl rfl rfl rfl rfl rfl ?_ | refine k_conv rfl rfl rfl ?_ | (refine k_indexAddr rfl rfl rfl ⟨?_, ?_⟩ ?_; (omega); (omega)))
  (first | with_reducible refine q_endr ?_); refine rets1 Try.results33 (by first | exact RetV.tmp _ _ rfl | exact RetV.cell _ _ _ _ _ _ _ _ inferInstance rfl rfl rfl) ?_
  rfl
theorem mWho_ok (a : Int) (i : Nat) (h : a % 6 = i) : Pur Try.prog 32 [.int .i64 a] (.agg (bs (w32 1 (UInt8.ofNat i)))) := by
  have hi : i < 6 := by omega
  have pk := p_picked a 6 i (by decide) (by decide) h
  obtain rfl | rfl | rfl | rfl | rfl | rfl : i = 0 ∨ i = 1 ∨ i = 2 ∨ i = 3 ∨ i = 4 ∨ i = 5 := by omega
  all_goals
    refine pur_intro Try.func32 rfl Try.ntmps32 rfl (by first | rfl | assumption | exact bs_cl _) fun B => ?_
    repeat (first | with_reducible (first | refine W_seq ?_ | refine q_then ?_ | refine W_ret ?_) | (with_reducible refine R_nil ?_; try dsimp only [slots0, slots_ud, cells_U, agg_ud, drop0, dropS, takeS, take0, ud_nil, take_ud, take_ud0, drop_ud, drop_ud0, take_udk, D.cells, D.fz, D.fzs, List.take_succ_cons, List.take_zero, List.drop_succ_cons, List.drop_zero, List.cons_append, List.nil_append, List.append_eq, List.length_cons, List.length_nil, Nat.reduceAdd, Nat.reduceMul, Nat.reduceSub, Int.reduceAdd, Int.reduceSub, Int.reduceToNat, Int.reduceNeg, Int.reduceMul]) | refine W_plain rfl ?_ | refine and_chk (by kernel_rfl) ?_ | refine k_move rfl rfl ?_ | refine k_load rfl rfl rfl rfl ?_ | refine k_alloc rfl ?_ | refine k_store rfl rfl rfl rfl rfl rfl rfl ?_ | refine k_call rfl pk rfl rfl rfl rfl ?_ | refine k_conv rfl rfl rfl ?_ | (refine k_indexAddr rfl rfl rfl ⟨?_, ?_⟩ ?_; (omega); (omega)))
    (first | with_reducible refine q_endr ?_); refine rets1 Try.results32 (by first | exact RetV.tmp _ _ rfl | exact RetV.cell _ _ _ _ _ _ _ _ inferInstance rfl rfl rfl) ?_
    rfl
def trX (am : Nat) (tk tp : List UInt8) : List D := ldC 1 am 0 tk 0 tp [.int .i64 1, .int .i64 0, .str ⟨#[]⟩, .slice .frozen 0 [], .int .i64 0, .slice .nil 0 []]
def trO (am : Nat) (tk tp : List UInt8) : List UInt8 := trB false am 0 tk 0 tp 1 []
theorem g_ntr (b : Bool) (w : World) : (Go.nilAhead (Try.prog.types.size + Made.depth) 132 (.agg #[.bool b]) "bascule/load.get").run Try.prog w = .ok (some false) w := by kernel_rfl
theorem trO_len (am : Nat) (tk tp : List UInt8) (h1 : tk.length = 32) (h2 : tp.length = 32) : (trO am tk tp).length = 133 := by
  unfold trO trB; simp [b32_len, h1, h2, toB_2]
theorem trO_enc (am : Nat) (tk tp : List UInt8) (h1 : tk.length = 32) (h2 : tp.length = 32) (ha : am < M256) : Pur Try.prog 30 [.agg (trL false am 0 tk 0 tp 1 []).cells] (.tup [.slice .frozen 133 (bs (trO am tk tp)), .int .i64 0]) :=
  Encode_tr false am 0 tk 0 tp 1 [] h1 h2 ha (by decide) (by decide) (by decide) (Nat.zero_le _) (Nat.zero_le _) 133 (trO_len am tk tp h1 h2)
set_option maxHeartbeats 4000000 in
theorem trO_dec (am : Nat) (tk tp : List UInt8) (h1 : tk.length = 32) (h2 : tp.length = 32) (ha : am < M256) : Pur Try.prog 61 [.slice .frozen 133 (bs (trO am tk tp))] (.tup [.agg (trX am tk tp), .int .i64 0]) := by
  have hC := Check_tr false am 0 tk 0 tp 1 [] h1 h2 ha (by decide) (by decide) (by decide) 0 rfl
  have u2 : Up (.agg (trX am tk tp)) (.agg (trL false am 0 tk 0 tp 1 []).cells) := .agg_ (ldC_ups (.cons (.refl _) (.cons (.refl _) (.cons (.refl _) (.cons (.refl _) (.cons (.refl _) (.cons (.nil _) .nil)))))))
  have hC2 := pur_upl hC (.cons u2 .nil)
  obtain ⟨r, hr⟩ : ∃ r, b32 am ++ (tk ++ (toB 2 0 ++ (tp ++ (toB 2 1 ++ (b32 0 ++ []))))) = r := ⟨_, rfl⟩
  have eB : trO am tk tp = 1 :: r := by unfold trO trB; rw [hr]; rfl
  have hrl : r.length = 132 := by have := trO_len am tk tp h1 h2; rw [eB, List.length_cons] at this; omega
  have hg := tr_get false (b32 am) tk 0 0 tp 0 1 (b32 0) [] r (b32_len am) h1 h2 (b32_len 0) (by rw [← hr]; rfl) 132 0 hrl rfl (by omega) am 0 0 1 (nm_b32 am ha) (nm_b32 0 (by decide)) rfl rfl
  rw [eB]
  have lx : ∀ k : Int, (ldC k am 0 tk 0 tp [.int .i64 1, .int .i64 0, .str ⟨#[]⟩, .slice .frozen 0 [], .int .i64 0, .slice .nil 0 []]).length = 80 := fun k => ldC_len (k := k) (am := am) (fe := 0) (ho := 0) h1 h2 _ rfl
  have ly : ∀ k : Int, ∀ cs : List D, cs.length = 80 → splice 0 (ldC k am 0 tk 0 tp [.int .i64 1, .int .i64 0, .str ⟨#[]⟩, .slice .frozen 0 [], .int .i64 0, .slice .nil 0 []]) cs = some (ldC k am 0 tk 0 tp [.int .i64 1, .int .i64 0, .str ⟨#[]⟩, .slice .frozen 0 [], .int .i64 0, .slice .nil 0 []]) := fun k => ldC_lay (k := k) (am := am) (fe := 0) (ho := 0) h1 h2 _ rfl
  have lz : ∀ k : Int, ∀ ze, cut ⟨true, 80, ze⟩ 0 (ldC k am 0 tk 0 tp [.int .i64 1, .int .i64 0, .str ⟨#[]⟩, .slice .frozen 0 [], .int .i64 0, .slice .nil 0 []]) = some (.agg (ldC k am 0 tk 0 tp [.int .i64 1, .int .i64 0, .str ⟨#[]⟩, .slice .frozen 0 [], .int .i64 0, .slice .nil 0 []])) := fun k => ldC_all (k := k) (am := am) (fe := 0) (ho := 0) h1 h2 _ rfl
  exact Decode_ok 1 r 133 132 hrl rfl (by omega) kindOf_1 _ (lx 0) (ly 0) (ld_cl _ _ _ _ _ _ _ _ _ _ _ _ rfl rfl) 0 hg (m_tr_get false) (g_ntr false) (one_rep false) rfl rfl _ rfl (lz 1) (ld_fz _ _ _ _ _ _ _ _ _ _ _ _ rfl rfl) (ld_cl _ _ _ _ _ _ _ _ _ _ _ _ rfl rfl) (lx 1) (ly 1) 0 hC2 rfl rfl
def msgB (i : Nat) (r : RawT) : BodyT := ⟨1 + (r.b % 9).toNat, 0, (r.k % 3).toNat, w32 176 0, i, 1, trO (r.a % 70).toNat (w32 116 0) (w32 1 (UInt8.ofNat (r.b % 6).toNat))⟩
def msgA (r : RawT) : Nat := (r.a % 70).toNat
theorem msg_ok (i : Nat) (hi : i < 256) (r : RawT) : (msgB i r).ok :=
  ⟨by show 1 + (r.b % 9).toNat ≤ _; omega, Nat.zero_le _, by show (r.k % 3).toNat ≤ _; omega, rfl, by show i ≤ _; omega, by show 1 ≤ _; decide, by show (trO _ _ _).length ≤ _; rw [trO_len _ _ _ rfl rfl]; decide⟩
theorem msg_wor (i : Nat) (r : RawT) : Wor (msgB i r) (msgA r) := by
  have h70 : (r.a % 70).toNat < 70 := by omega
  refine ⟨by unfold msgA; omega, trX (msgA r) _ _, ldC_len (k := 1) (am := msgA r) (fe := 0) (ho := 0) (show (w32 116 0).length = 32 from rfl) (show (w32 1 (UInt8.ofNat (r.b % 6).toNat)).length = 32 from rfl) _ rfl, ld_cl _ _ _ _ _ _ _ _ _ _ _ _ rfl rfl, ldC_k _ _ _ _ _ _ _, ldC_am _ _ _ _ _ _ _, ?_⟩
  have := trO_dec (msgA r) (w32 116 0) (w32 1 (UInt8.ofNat (r.b % 6).toNat)) rfl rfl (by unfold msgA; exact Nat.lt_of_lt_of_le h70 (by decide))
  show Pur _ _ [.slice .frozen (trO _ _ _).length (bs (trO _ _ _))] _
  rw [trO_len _ _ _ rfl rfl]
  exact this
theorem gmod (a : Int) (m : Nat) (h : 0 < m) : ∃ n : Nat, a % m = n ∧ n < m := ⟨(a % m).toNat, by have := Int.emod_nonneg a (show (m : Int) ≠ 0 by omega); omega, by have := Int.emod_nonneg a (show (m : Int) ≠ 0 by omega); have := Int.emod_lt_of_pos a (show (0 : Int) < m by omega); omega⟩
set_option maxHeartbeats 8000000 in
theorem message_ok (i : Nat) (hi : i < 256) (k a b : Int) (s : ByteArray) : Pur Try.prog 14 [.int .i64 (i : Int), .agg [.int .i64 k, .int .i64 a, .int .i64 b, .str s]] (.agg (msgB i ⟨k, a, b, s⟩).cells) := by
  obtain ⟨am, ea, ha⟩ := gmod a 70 (by decide)
  obtain ⟨bn, eb, hb⟩ := gmod b 9 (by decide)
  obtain ⟨wn, ew, hw⟩ := gmod b 6 (by decide)
  obtain ⟨cn, ec, hc⟩ := gmod k 3 (by decide)
  have pa := p_picked a 70 am (by decide) (by decide) ea
  have pb := p_picked b 9 bn (by decide) (by decide) eb
  have pc := p_picked k 3 cn (by decide) (by decide) ec
  have hwh := mWho_ok b wn ew
  have htk := mToken_ok
  have hem := mEmit_ok
  have hM : msgB i ⟨k, a, b, s⟩ = ⟨1 + bn, 0, cn, w32 176 0, i, 1, trO am (w32 116 0) (w32 1 (UInt8.ofNat wn))⟩ := by
    unfold msgB
    dsimp only
    rw [show (a % 70).toNat = am by omega, show (b % 9).toNat = bn by omega, show (b % 6).toNat = wn by omega, show (k % 3).toNat = cn by omega]
  rw [hM]
  have hE := trO_enc am (w32 116 0) (w32 1 (UInt8.ofNat wn)) rfl rfl (Nat.lt_of_lt_of_le ha (by decide))
  have hcw : IntKind.u64.wrap (am : Int) = (am : Int) := by rw [IntKind.wrap_u64]; omega
  have u1 : Up (.agg (ldC 1 am 0 (w32 116 0) 0 (w32 1 (UInt8.ofNat wn)) [.int .i64 1, .int .i64 0, .str ⟨#[]⟩, .slice .nil 0 [], .int .i64 0, .slice .nil 0 []])) (.agg (trL false am 0 (w32 116 0) 0 (w32 1 (UInt8.ofNat wn)) 1 []).cells) := .agg_ (ldC_ups (.cons (.refl _) (.cons (.refl _) (.cons (.refl _) (.cons (.nil _) (.cons (.refl _) (.cons (.nil _) .nil)))))))
  have hE2 := pur_upl hE (.cons u1 .nil)
  have ol : (trO am (w32 116 0) (w32 1 (UInt8.ofNat wn))).length = 133 := trO_len _ _ _ rfl rfl
  unfold BodyT.cells
  dsimp only
  rw [ol]
  generalize bs (trO am (w32 116 0) (w32 1 (UInt8.ofNat wn))) = zo at *
  have hud : ud am = [.int .u64 (am : Int), .int .u64 0, .int .u64 0, .int .u64 0] := ud_small am (by omega)
  unfold ldC at hE2
  rw [hud] at hE2
  refine pur_intro Try.func14 rfl Try.ntmps14 rfl (by first | rfl | assumption | exact bs_cl _) fun B => ?_
  repeat (first | with_reducible (first | refine W_seq ?_ | refine q_then ?_ | refine W_ret ?_) | (with_reducible refine R_nil ?_; try dsimp only [slots0, slots_ud, cells_U, agg_ud, drop0, dropS, takeS, take0, ud_nil, take_ud, take_ud0, drop_ud, drop_ud0, take_udk, D.cells, D.fz, D.fzs, List.take_succ_cons, List.take_zero, List.drop_succ_cons, List.drop_zero, List.cons_append, List.nil_append, List.append_eq, List.length_cons, List.length_nil, Nat.reduceAdd, Nat.reduceMul, Nat.reduceSub, Int.reduceAdd, Int.reduceSub, Int.reduceToNat, Int.reduceNeg, Int.reduceMul]) | refine W_plain rfl ?_ | refine W_drawn mixed rfl ?_ | refine and_chk (by kernel_rfl) ?_ | refine k_move rfl rfl ?_ | refine k_assign rfl rfl ?_ | refine k_load rfl rfl rfl rfl ?_ | refine k_alloc rfl ?_ | refine k_box rfl rfl rfl ?_ | refine k_store rfl rfl rfl rfl rfl rfl rfl ?_ | refine k_extract rfl rfl rfl ?_ | refine k_fieldAddr rfl rfl rfl ?_ | refine k_build rfl rfl rfl ?_ | refine k_call rfl pa rfl rfl rfl rfl ?_ | refine k_call rfl pb rfl rfl rfl rfl ?_ | refine k_call rfl pc rfl rfl rfl rfl ?_ | refine k_call rfl hwh rfl rfl rfl rfl ?_ | refine k_call rfl htk rfl rfl rfl rfl ?_ | refine k_call rfl hem rfl rfl rfl rfl ?_ | refine k_conv rfl rfl hcw ?_ | refine k_call rfl hE2 rfl rfl rfl rfl ?_ | (refine k_append rfl rfl rfl ?_ ?_ ?_ rfl ?_ rfl rfl rfl ?_; (first | rfl | exact trivial | (show 0 < _; omega)); (first | rfl | (simp <;> omega)); (first | rfl | (simp <;> omega)); (omega)) | (refine k_addi rfl rfl rfl ?_ ?_; (omega)))
  (first | with_reducible refine q_endr ?_); refine rets1 Try.results14 (by first | exact RetV.tmp _ _ rfl | exact RetV.cell _ _ _ _ _ _ _ _ inferInstance rfl rfl rfl) ?_
  rfl
end Go.Proofs.Ytcfefmbbbfdppaa
