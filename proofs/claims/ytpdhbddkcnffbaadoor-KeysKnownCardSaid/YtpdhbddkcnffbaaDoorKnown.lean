/- The curve secp256k1: its base, twice and three times that. No conditions. -/
import Derived.Test.YtpdhbddkcnffbaaDoorGrpX
namespace Go.Proofs.YtpdhbddkcnffbaaDoor
open Go.RowKit
set_option linter.unusedVariables false
set_option maxRecDepth 100000
--nrm pt_all pt_x pt_y cv_all cv_p cv_a cv_b cv_n cv_g cv_gx pt_len cv_len rg_len ren_rl rl_all rl_m rl_len rl_nil pt_nil ptD_all ptD_nil ptD_len

def kP : Nat := 115792089237316195423570985008687907853269984665640564039457584007908834671663
def kN : Nat := 115792089237316195423570985008687907852837564279074904382605163141518161494337
def kX : Nat := 55066263022277343669578718895168534326250603453777594175500187360389116729240
def kY : Nat := 32670510020758816978083085130507043184471273380659243275938904335757337482424
def kX2 : Nat := 89565891926547004231252920425935692360644145829622209833684329913297188986597
def kY2 : Nat := 12158399299693830322967808612713398636155367887041628176798871954788371653930
def kX3 : Nat := 112711660439710606056748659173929673102114977341539408544630613555209775888121
def kY3 : Nat := 25583027980570883691656905877401976406448868254816295069919888960541586679410
def kI2 : Nat := 83174505189910067536517124096019359197644205712500122884473429251812128958118
def kI3 : Nat := 37732016455592228448156445462498416408852156224504820822700452822953572406827

theorem kGood : Good kP 0 7 kN kX kY := ⟨by decide +kernel, by decide +kernel, by decide +kernel, by decide +kernel, by decide +kernel, by decide +kernel, by decide +kernel, by decide +kernel, by decide +kernel, by decide +kernel, by decide +kernel⟩
theorem kDbl : AddP kP 0 7 kN kX kY (kX, kY, false) (kX, kY, false) (kX2, kY2, false) :=
  add_dbl kP 0 7 kN kX kY kX kY kI2 _ kX2 kY2 (by decide +kernel) (by decide +kernel) (by decide +kernel) (by decide +kernel) (by decide +kernel) (by decide +kernel) (by decide +kernel) (by decide +kernel) (GM.gcd_of_inv (i := kI2) (by decide +kernel)) rfl (by decide +kernel) (by decide +kernel)
theorem kAdd : AddP kP 0 7 kN kX kY (kX2, kY2, false) (kX, kY, false) (kX3, kY3, false) :=
  add_gen kP 0 7 kN kX kY kX2 kY2 kX kY kI3 _ kX3 kY3 (by decide +kernel) (by decide +kernel) (by decide +kernel) (by decide +kernel) (by decide +kernel) (by decide +kernel) (by decide +kernel) (by decide +kernel) (by decide +kernel) (GM.gcd_of_inv (i := kI3) (by decide +kernel)) rfl (by decide +kernel) (by decide +kernel)

/-- so many times the base, as far as told -/
def kS : Nat → P3
  | 0 => (0, 0, true)
  | 1 => (kX, kY, false)
  | 2 => (kX2, kY2, false)
  | _ => (kX3, kY3, false)
theorem kOn (j : Nat) : OnP kP 0 7 (kS j) := by
  match j with
  | 0 => exact .inl rfl
  | 1 => exact .inr ⟨rfl, by decide +kernel, by decide +kernel, by decide +kernel⟩
  | 2 => exact .inr ⟨rfl, by decide +kernel, by decide +kernel, by decide +kernel⟩
  | j + 3 => exact .inr ⟨rfl, by show kX3 < kP; decide +kernel, by show kY3 < kP; decide +kernel, by show onN kP 0 7 kX3 kY3 = true; decide +kernel⟩
theorem kMult (k : Nat) (hk : k ≤ 3) : Pur Tryd.prog 30 [.agg (cv kP 0 7 kN kX kY false), U k, .agg (pt kX kY false)] (.tup [.agg (ptD (kS k)), .int .i64 0]) := by
  refine Mult_ok kGood kS k (by unfold M256; omega) rfl (kOn 1) (fun j hj => ?_) (fun j hj => ?_)
  · obtain rfl | rfl : j = 0 ∨ j = 1 := by omega
    · exact add_farL kP 0 7 kN kX kY 0 0 _
    · exact kDbl
  · obtain rfl | rfl : j = 0 ∨ j = 1 := by omega
    · exact add_farL kP 0 7 kN kX kY 0 0 _
    · exact kAdd
theorem Known_ok : Pur Tryd.prog 9 [] (.agg (cv kP 0 7 kN kX kY false)) := by
  refine pur_intro Tryd.func9 rfl Tryd.ntmps9 rfl (by first | rfl | assumption | exact bs_cl _) fun B => ?_
  repeat (first | with_reducible (first | refine W_seq ?_ | refine q_then ?_ | refine q_thenr ?_ | refine q_thenx ?_ | refine W_block ?_ | refine q_block ?_ | refine q_blockr ?_ | refine q_blockx ?_ | refine W_ret ?_ | refine W_skip ?_ | refine W_label ?_ | refine W_exit ?_ | refine W_scope ?_ | refine q_scope ?_ | refine q_scoper ?_ | refine q_scopex ?_) | (with_reducible refine R_nil ?_; try dsimp only [slots0, slots_ud, pt_all, pt_x, pt_y, cv_all, cv_p, cv_a, cv_b, cv_n, cv_g, cv_gx, pt_len, cv_len, rg_len, ren_rl, rl_all, rl_m, rl_len, rl_nil, pt_nil, ptD_all, ptD_nil, ptD_len, cells_U, agg_ud, drop0, dropS, takeS, take0, ud_nil, take_ud, take_ud0, drop_ud, drop_ud0, take_udk, D.cells, D.fz, D.fzs, List.take_succ_cons, List.take_zero, List.drop_succ_cons, List.drop_zero, List.cons_append, List.nil_append, List.append_eq, List.length_cons, List.length_nil, Nat.reduceAdd, Nat.reduceMul, Nat.reduceSub, Int.reduceAdd, Int.reduceSub, Int.reduceToNat, Int.reduceNeg, Int.reduceMul]) | refine q_blocky rfl ?_ | refine W_plain rfl ?_ | refine W_drawn mixed rfl ?_ | refine and_chk (by kernel_rfl) ?_ | refine k_alloc rfl ?_ | refine k_store rfl rfl rfl rfl rfl rfl rfl ?_ | refine k_build rfl rfl rfl ?_ | refine W_yes rfl ?_ | refine W_no rfl ?_)
  (first | with_reducible refine q_endr ?_ | with_reducible refine q_endn ?_); refine rets1 Tryd.results9 (by first | exact RetV.tmp _ _ rfl | exact RetV.cell _ _ _ _ _ _ _ _ inferInstance rfl rfl rfl) ?_
  rfl
end Go.Proofs.YtpdhbddkcnffbaaDoor
