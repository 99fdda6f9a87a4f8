/- A signature whose s is high is none. Conditions: a small curve of odd order; numbers below the order. -/
import Derived.Test.YtpdhbddkcnffbaaDoorSgn4
namespace Go.Proofs.YtpdhbddkcnffbaaDoor
open Go.RowKit Go.Lib
set_option linter.unusedVariables false
set_option linter.unusedVariables false
set_option maxRecDepth 100000
--nrm pt_all pt_x pt_y cv_all cv_p cv_a cv_b cv_n cv_g cv_gx pt_len cv_len rg_len ren_rl rl_all rl_m rl_len rl_nil pt_nil ptD_all ptD_nil ptD_len sg_all sg_r sg_s sg_len

theorem fz3 (cs z : List D) (l : List UInt8) (hz : D.fzs z = z) (hc : D.fzs cs = cs) : D.fzs [D.agg cs, D.agg (bs l), D.agg z] = [D.agg cs, D.agg (bs l), D.agg z] := by
  show [D.agg (D.fzs cs), D.agg (D.fzs (bs l)), D.agg (D.fzs z)] = _
  rw [bs_fzs, hz, hc]
theorem cl3 (cs z : List D) (l : List UInt8) (hz : D.cls z = true) (hc : D.cls cs = true) : D.cls [D.agg cs, D.agg (bs l), D.agg z] = true := by
  show (D.cls cs && (D.cls (bs l) && (D.cls z && true))) = true
  rw [bs_cl, hz, hc]; rfl
theorem fzm (cs q : List D) (l : List UInt8) (hc : D.fzs cs = cs) (hq : D.fzs q = q) : D.fzs [D.agg cs, D.agg q, D.agg (bs l)] = [D.agg cs, D.agg q, D.agg (bs l)] := by
  show [D.agg (D.fzs cs), D.agg (D.fzs q), D.agg (D.fzs (bs l))] = _
  rw [bs_fzs, hc, hq]
theorem clm (cs q : List D) (l : List UInt8) (hc : D.cls cs = true) (hq : D.cls q = true) : D.cls [D.agg cs, D.agg q, D.agg (bs l)] = true := by
  show (D.cls cs && (D.cls q && (D.cls (bs l) && true))) = true
  rw [bs_cl, hc, hq]; rfl
section
variable {p b n gx gy : Nat} {T : Nat → P3}
end
end Go.Proofs.YtpdhbddkcnffbaaDoor
