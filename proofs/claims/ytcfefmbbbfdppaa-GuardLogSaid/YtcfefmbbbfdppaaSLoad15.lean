/- load: Decode, by kinds. Conditions: as said. -/
import Derived.Test.YtcfefmbbbfdppaaSGi
namespace Go.Proofs.Ytcfefmbbbfdppaa
open Go.RowKit Go.Lib Go.IntWalk
set_option linter.unusedVariables false
set_option maxRecDepth 100000
section
variable {T : TypeId} {v : Value} {dr : D} {F : FuncId} [HasFn Try.prog F] (c : UInt8) (r : List UInt8) (L n : Nat) (hn : r.length = n) (hL : n + 1 = L) (hL9 : L ≤ 140737488355328) (hk : Pur Try.prog 54 [.int .i64 (c.toNat : Int)] (.tup [.raw (.iface T v), .bool true]))
  (Y : List D) (hYl : Y.length = 80) (hYy : ∀ cs : List D, cs.length = 80 → splice 0 Y cs = some Y) (hYc : D.cls Y = true) (e : Int) (hg : Pur Try.prog F [dr, .slice .frozen n (bs r)] (.tup [.agg Y, .int .i64 e]))
  (hm : ∀ w, (Go.method (Try.prog.types.size + Made.depth) T v "bascule/load.get").run Try.prog w = .ok (F, v) w) (hnil : ∀ w, (Go.nilAhead (Try.prog.types.size + Made.depth) T v "bascule/load.get").run Try.prog w = .ok (some false) w)
  (hrv : ∀ G w, Rep G w dr v) (hdr : dr.fz = dr) (hcd : dr.cl = true)
include hn hL hL9 hk hYl hYy hYc hg hm hnil hrv hdr hcd
variable (X : List D) (hYX : splice 0 [.int .i64 (c.toNat : Int)] Y = some X) (hXa : ∀ ze, cut ⟨true, 80, ze⟩ 0 X = some (.agg X)) (hXz : D.fzs X = X) (hXc : D.cls X = true) (hXl : X.length = 80) (hXy : ∀ cs : List D, cs.length = 80 → splice 0 X cs = some X) (f : Int) (hC : Pur Try.prog 53 [.agg X] (.int .i64 f)) (he : e = 0)
include hYX hXa hXz hXc hXl hXy hC he
set_option maxHeartbeats 8000000 in
theorem Decode_ok (hf : f = 0) : Pur Try.prog 61 [.slice .frozen L (bs (c :: r))] (.tup [.agg X, .int .i64 0]) := by
  subst he hf
  have c1 : D.cls [dr, .slice .frozen n (bs r)] = true := by show (dr.cl && true) = true; rw [hcd]; rfl
  have hgc : (D.tup [.agg Y, .int .i64 0]).cl = true := by show (D.cls Y && true) = true; rw [hYc]; rfl
  have hrc : (D.tup [.agg X, .int .i64 0]).cl = true := by show (D.cls X && true) = true; rw [hXc]; rfl
  have c2 : D.cls [.agg X] = true := by show (D.cls X && true) = true; rw [hXc]; rfl
  have z2 : D.fzs [.agg X] = [.agg X] := by show [D.agg (D.fzs X)] = _; rw [hXz]
  have hb0 : ∀ ze, cut ⟨false, 1, ze⟩ 0 ((bs (c :: r)).drop ((0 : Int).toNat * 1)) = some (.int .u8 (c.toNat : Int)) := bs_nth (c :: r) [] r c rfl _ rfl
  have p1 : ((bs (c :: r)).drop ((1 : Int).toNat * 1)).take (n * 1) = bs r := bs_mid (c :: r) [c] r [] (by simp) _ _ rfl (by omega)
  have hz1 : L * 1 = (bs (c :: r)).length := by rw [bs_len, List.length_cons]; omega
  have q0 := c.toNat_lt
  have c0 : IntKind.i64.wrap (c.toNat : Int) = (c.toNat : Int) := i64_in _ (by omega)
  have hq : ((L : Int) - 1).toNat = n := by omega
  have hz : ∀ ze, cut ⟨true, 80, ze⟩ 0 ld0 = some (.agg ld0) := ldC_all z32_len z32_len _ rfl
  have hfz := ld0_fz
  have hbz : dfill ldPl ld0 [] = some ld0 := rfl
  have hlen : ld0.length = 80 := ldC_len z32_len z32_len _ rfl
  have hlay : ∀ cs : List D, cs.length = 80 → splice 0 ld0 cs = some ld0 := ldC_lay z32_len z32_len _ rfl
  generalize c.toNat = C at *
  generalize bs (c :: r) = Z at *
  refine pur_intro Try.func61 rfl Try.ntmps61 rfl hrc fun B => ?_
  repeat (first | with_reducible (first | refine W_seq ?_ | refine q_then ?_ | refine W_ret ?_ | refine W_skip ?_) | (with_reducible refine R_nil ?_; try dsimp only [slots0, slots_ud, cells_U, agg_ud, drop0, dropS, takeS, take0, ud_nil, take_ud, take_ud0, drop_ud, drop_ud0, take_udk, D.cells, D.fz, D.fzs, List.take_succ_cons, List.take_zero, List.drop_succ_cons, List.drop_zero, List.cons_append, List.nil_append, List.append_eq, List.length_cons, List.length_nil, Nat.reduceAdd, Nat.reduceMul, Nat.reduceSub, Int.reduceAdd, Int.reduceSub, Int.reduceToNat, Int.reduceNeg, Int.reduceMul]) | refine W_plain rfl ?_ | refine W_drawn mixed rfl ?_ | refine and_chk (by kernel_rfl) ?_ | (refine k_slice (nn := n) rfl rfl rfl rfl ⟨?_, ?_, ?_⟩ hz1 hq p1 ?_; (omega); (omega); (omega)) | (refine k_indexAddrs rfl rfl rfl ⟨?_, ?_⟩ hz1 ?_; (omega); (omega)) | refine k_loade rfl rfl (hb0 _) ?_ | refine k_store rfl rfl rfl rfl (by exact hlen) rfl (by exact hlay _ rfl) ?_ | refine k_store rfl rfl rfl rfl (by exact hYl) rfl (by exact hYy _ rfl) ?_ | refine k_store rfl rfl rfl rfl rfl rfl hYX ?_ | refine k_load rfl rfl rfl (hXa _) ?_ | refine k_store rfl rfl rfl rfl (by exact hXl) rfl (by exact hXy _ rfl) ?_ | refine k_move rfl rfl ?_ | refine k_assign rfl rfl ?_ | refine k_load rfl rfl rfl rfl ?_ | refine k_alloc rfl ?_ | refine k_store rfl rfl rfl rfl rfl rfl rfl ?_ | refine k_extract rfl rfl rfl ?_ | refine k_fieldAddr rfl rfl rfl ?_ | refine k_conv rfl rfl c0 ?_ | refine k_call rfl hk rfl rfl rfl rfl ?_ | refine k_makeMeth rfl rfl ?_ | refine k_nilMeth rfl hnil rfl ?_ | refine k_invoke rfl hg hm hrv hdr rfl rfl rfl c1 hgc ?_ | refine k_call rfl hC rfl z2 c2 rfl ?_ | (refine k_append rfl rfl rfl ?_ ?_ ?_ rfl ?_ rfl rfl rfl ?_; (first | rfl | exact trivial | (show 0 < _; omega)); (first | rfl | (simp <;> omega)); (first | rfl | (simp <;> omega)); (omega)) | (refine k_slice rfl rfl rfl rfl ⟨?_, ?_, ?_⟩ rfl rfl rfl ?_; (omega); (omega); (omega)) | (refine k_indexAddrs rfl rfl rfl ⟨?_, ?_⟩ rfl ?_; (omega); (omega)) | refine k_loade rfl rfl rfl ?_ | refine k_len rfl rfl ?_ | refine k_not rfl rfl rfl ?_ | (refine k_eqlF rfl rfl rfl ?_ ?_; (omega)) | (refine k_neqF rfl rfl rfl ?_ ?_; (omega)) | refine W_no rfl ?_)
  (first | with_reducible refine q_endr ?_); refine rets2 Try.results61 (RetV.cell _ _ _ _ _ _ _ _ inferInstance rfl rfl (by exact hXa _)) (RetV.tmp _ _ rfl) ?_ rfl
  show D.agg (D.fzs X) = _
  rw [hXz]
end
end Go.Proofs.Ytcfefmbbbfdppaa
