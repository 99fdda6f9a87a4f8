/- GuardWord: a guard signs what it has let pass, and nothing else; what it has met once it does not meet again. Conditions: none but what the card says of the tables. -/
import Derived.Test.YtcfefmbbbfdppaaGreatDoorSBytes
import Derived.Test.YtcfefmbbbfdppaaGreatDoorSBit
import Derived.Test.YtcfefmbbbfdppaaGreatDoorSDCpy
import Derived.Test.YtcfefmbbbfdppaaGreatDoorSRow
import Derived.Test.YtcfefmbbbfdppaaGreatDoorTie
import Derived.Test.YtcfefmbbbfdppaaGreatDoorCards
import Derived.Test.YtcfefmbbbfdppaaGreatDoorSD
import Derived.ChangeSame
import Derived.ChangeVars
import Derived.JoinedOf
import Derived.LaidLaws
import Derived.LaidHandle
import Derived.LaidMore
import Derived.Stop.Joined
import Derived.Stop.LaidErr
import Derived.Lib.LaidTab
import Derived.SevenTiedAt
import Derived.Test.YtcfefmbbbfdppaaGreatDoorSGuW2
import Derived.Test.YtcfefmbbbfdppaaGreatDoorSUpl
namespace Go.Proofs.YtcfefmbbbfdppaaGreatDoor
open Go.RowKit Go.Lib Go.IntWalk
set_option linter.unusedVariables false
set_option maxRecDepth 100000
def r00 : RawT := ⟨0, 0, 0, ⟨#[]⟩⟩
theorem tells_fits : (g0T (gofG 0 0)).g.fits (qOf (g0T (gofG 0 0)) (msgB 0 r00) (msgA r00)) = true := rfl
set_option maxHeartbeats 16000000 in
theorem guardTells_ok : Pur Tryz.prog 9 [] (.bool true) := by
  have hg := gof_start 0 0
  have hgo := gateOf_ok 0 0 0 ⟨#[]⟩
  have hbg := Begin_fn (gofG 0 0) hg.ok
  have hup := GT.ups0 (gofG 0 0) hg
  have hi := lv_inv (gofG 0 0) hg [] 0 (Nat.le_refl _) (by decide)
  replace hi : LInv (gofG 0 0) 0 0 (g0T (gofG 0 0)) := hi
  have hms := message_ok 0 (by decide) 0 0 0 ⟨#[]⟩
  replace hms : Pur Tryz.prog 18 [.int .i64 0, .agg [.int .i64 0, .int .i64 0, .int .i64 0, .str ⟨#[]⟩]] (.agg (msgB 0 r00).cells) := hms
  have hm := msg_ok 0 (by decide) r00
  have hS : Pur Tryz.prog 8 [.agg (g0T (gofG 0 0)).cells, .slice .frozen 1 (bdC [msgB 0 r00])] (.tup [.agg ((g0T (gofG 0 0)).meet (msgB 0 r00) (msgA r00)).cells, .int .i64 1]) := by
    obtain ⟨a1, a2, a3, a4, a5⟩ := hi.new r00 (by decide)
    have h1 := meet_new _ hi.ok (msgB 0 r00) hm (by decide) (by decide) (msgA r00) (msg_wor 0 r00) a1 a3 a4 a5 hi.si a2 188 (msg_outlen r00 0 (by decide)) (by decide) (by decide)
    exact See_ok _ hi.ok [msgB 0 r00] (fun b hb => by rw [List.mem_singleton.1 hb]; exact hm) 1 rfl (by decide) (fun k => if k = 0 then (g0T (gofG 0 0), 0) else ((g0T (gofG 0 0)).meet (msgB 0 r00) (msgA r00), 1)) rfl (fun k b hb => by
      match k, hb with
      | 0, hb =>
        obtain rfl : msgB 0 r00 = b := by simpa using hb
        exact ⟨true, h1, fun _ => rfl, fun h => by cases h⟩
      | k + 1, hb => simp at hb)
  have hbf := (one_fill _ hm.e).trans (congrArg some (bdC_one _).symm)
  have hbc1 : (D.agg (msgB 0 r00).cells).cl = true := bd_cls _
  have hzc : D.cls (bdC [msgB 0 r00]) = true := bdC_cls _
  have hzf : D.fzs (bdC [msgB 0 r00]) = bdC [msgB 0 r00] := bdC_fzs _
  obtain ⟨y, hy⟩ : ∃ y, (g0T (gofG 0 0)).meet (msgB 0 r00) (msgA r00) = y := ⟨_, rfl⟩
  have hd1 : y.dn.length = 1 := by
    rw [← hy]; unfold GuT.meet GuT.take
    rw [if_pos tells_fits]; rfl
  have hla : (0 : Int) < (y.la.length : Int) := by
    rw [← hy]
    show (0 : Int) < (((g0T (gofG 0 0)).take (msgB 0 r00) (msgA r00)).la ++ rec8 (1 :: (msgB 0 r00).out)).length
    rw [List.length_append, rec8_len]; omega
  rw [hy] at hS
  clear hy hm hi
  generalize bdC [msgB 0 r00] = zb at *
  generalize (msgB 0 r00).cells = bc at *
  generalize gofG 0 0 = g at *
  unfold GT.cells gC qD at hbg hup
  unfold GT.cells0 at hgo hup
  unfold GuT.cells guC bD mD g0T at hS
  dsimp only at hS
  replace hS : Pur Tryz.prog 8 [.agg [.int .u64 5, .int .u64 0, .int .u64 0, .int .u64 0, .int .i64 g.l0, .int .i64 g.l1, .int .i64 g.l2, .int .i64 g.b0, .int .i64 g.b1, .int .i64 g.b2, .int .i64 g.now, .slice .frozen g.past.length (qsC g.past), .slice .frozen g.queue.length (qsC g.queue), .int .i64 g.l0, .int .i64 g.l1, .int .i64 g.l2, .int .i64 g.b0, .int .i64 g.b1, .int .i64 g.b2, .int .i64 g.now, .slice .frozen g.past.length (qsC g.past), .slice .frozen g.queue.length (qsC g.queue), .slice .frozen 0 [], .slice .frozen 0 [], .slice .frozen 0 [], .slice .frozen 0 []], .slice .frozen 1 zb] (.tup [.agg [.int .u64 5, .int .u64 0, .int .u64 0, .int .u64 0, .int .i64 y.f.l0, .int .i64 y.f.l1, .int .i64 y.f.l2, .int .i64 y.f.b0, .int .i64 y.f.b1, .int .i64 y.f.b2, .int .i64 y.f.now, .slice .frozen y.f.past.length (qsC y.f.past), .slice .frozen y.f.queue.length (qsC y.f.queue), .int .i64 y.g.l0, .int .i64 y.g.l1, .int .i64 y.g.l2, .int .i64 y.g.b0, .int .i64 y.g.b1, .int .i64 y.g.b2, .int .i64 y.g.now, .slice .frozen y.g.past.length (qsC y.g.past), .slice .frozen y.g.queue.length (qsC y.g.queue), .slice .frozen y.la.length (bs y.la), .slice .frozen y.si.length (bs y.si), .slice .frozen y.hd.length (bdC y.hd), .slice .frozen y.dn.length (bdC y.dn)], .int .i64 1]) := hS
  rw [hd1] at hS
  unfold guC at hbg
  generalize bdC y.dn = yd at *
  refine pur_intro Tryz.func9 rfl Tryz.ntmps9 rfl (by first | rfl | assumption | exact bs_cl _) fun B => ?_
  repeat (first | refine zC ?_ | refine k_buildSlice rfl rfl hbf hzf hzc rfl rfl ?_ | refine zA ?_ | refine k_call rfl hgo rfl rfl rfl rfl ?_ | refine k_callf (fun l => l + 3) [0, 1] (5) rfl (hbg) rfl (.cons (.refl _) (.cons hup .nil)) (rfl) (by exact zmf) rfl rfl rfl rfl (rfl) (rfl) rfl rfl rfl rfl ?_ | refine k_call rfl hms rfl rfl rfl hbc1 ?_ | refine k_call rfl hS rfl rfl rfl rfl ?_ | refine zB ?_)
  (first | with_reducible refine q_endr ?_); refine rets1 Tryz.results9 (by exact zv) ?_
  rfl
end Go.Proofs.YtcfefmbbbfdppaaGreatDoor
namespace Go.Proofs.YtcfefmbbbfdppaaGreatDoor
open Go.RowKit Go.Lib Go.IntWalk
set_option linter.unusedVariables false
set_option maxRecDepth 100000
set_option maxHeartbeats 8000000 in
theorem sQueue_ok (l : List QT) (n : Nat) (hn : l.length = n) (hn9 : n ≤ 1000) : Pur Tryz.prog 29 [.slice .frozen n (qsC l), .slice .frozen n (qsC l)] (.bool true) := by
  have hp := qs_len l
  have hc := qs_cut l
  rw [hn] at hp
  generalize qsC l = z at *
  have hz1 : n * 4 = z.length := hp.symm
  refine pur_intro Tryz.func29 rfl Tryz.ntmps29 rfl (by first | rfl | assumption | exact bs_cl _) fun B => ?_
  refine zR ?_
  refine W_loopW (fun n' ρ m nx => ∃ j : Nat, j ≤ n ∧ n' = n - j ∧ ρ = [(13, .int .i64 (j : Int)), (12, .int .i64 (n : Int)), (1, .slice .frozen n z), (0, .slice .frozen n z)] ∧ m = [] ∧ nx = 0)
    ⟨_, _, _, _, weak_sub (by exact zs) (by exact zm) (Nat.zero_le _), 0, Nat.zero_le _, rfl, rfl, rfl, rfl⟩ ?_
  rintro n' ρ m nx ⟨j, hj, rfl, rfl, rfl, rfl⟩
  by_cases hlt : j < n
  · obtain ⟨q, hq⟩ : ∃ q, l[j]? = some q := ⟨_, List.getElem?_eq_getElem (by omega)⟩
    have hcq := hc j q hq
    have hd : (!deqs [D.int .i64 q.id, .int .i64 q.val, .int .i64 q.ch, .int .i64 q.at_] [D.int .i64 q.id, .int .i64 q.val, .int .i64 q.ch, .int .i64 q.at_]) = false := by simp [deqs, deq1]
    repeat (first | refine zC ?_ | (refine k_indexAddrs rfl rfl rfl ⟨?_, ?_⟩ hz1 ?_; (omega); (omega)) | refine k_loade rfl rfl (hcq _) ?_ | refine zA ?_ | refine k_nea rfl rfl rfl rfl rfl hd ?_ | refine zB ?_)
    exact ⟨n - (j + 1), _, _, _, weak_sub (by exact zs) (by exact zm) (Nat.zero_le _), by omega, j + 1, by omega, rfl, rfl, rfl, rfl⟩
  · obtain rfl : j = n := by omega
    refine zR ?_
    (first | with_reducible refine q_endr ?_); refine rets1 Tryz.results29 (by exact zv) ?_
    rfl
set_option maxHeartbeats 8000000 in
theorem sBodies_ok (l : List BodyT) (h : Em l) (n : Nat) (hn : l.length = n) (hn9 : n ≤ 1000) : Pur Tryz.prog 30 [.slice .frozen n (bdC l), .slice .frozen n (bdC l)] (.bool true) := by
  have hp := bdC_len l h
  have hc := bdC_cut l h
  rw [hn] at hp
  generalize bdC l = z at *
  have hz1 : n * 38 = z.length := hp.symm
  refine pur_intro Tryz.func30 rfl Tryz.ntmps30 rfl (by first | rfl | assumption | exact bs_cl _) fun B => ?_
  refine zR ?_
  refine W_loopW (fun n' ρ m nx => ∃ j : Nat, j ≤ n ∧ n' = n - j ∧ ρ = [(13, .int .i64 (j : Int)), (12, .int .i64 (n : Int)), (1, .slice .frozen n z), (0, .slice .frozen n z)] ∧ m = [] ∧ nx = 0)
    ⟨_, _, _, _, weak_sub (by exact zs) (by exact zm) (Nat.zero_le _), 0, Nat.zero_le _, rfl, rfl, rfl, rfl⟩ ?_
  rintro n' ρ m nx ⟨j, hj, rfl, rfl, rfl, rfl⟩
  by_cases hlt : j < n
  · obtain ⟨b, hb⟩ : ∃ q, l[j]? = some q := ⟨_, List.getElem?_eq_getElem (by omega)⟩
    have hcb := hc j b hb
    have heb := h b (List.mem_of_getElem? hb)
    have hs := same_ok b b heb heb true (by simp)
    have hcl := bd_cls b
    have hf := bd_fz b
    have hf2 : D.fzs [D.agg b.cells, D.agg b.cells] = [D.agg b.cells, D.agg b.cells] := by
      have h1 : D.fzs b.cells = b.cells := by simpa [D.fzs, D.fz] using hf
      show [D.agg (D.fzs b.cells), D.agg (D.fzs b.cells)] = _
      rw [h1]
    have hc2 : D.cls [D.agg b.cells, D.agg b.cells] = true := by
      show (D.cls b.cells && (D.cls b.cells && true)) = true
      rw [hcl]; rfl
    generalize b.cells = bc at *
    repeat (first | refine zC ?_ | (refine k_indexAddrs rfl rfl rfl ⟨?_, ?_⟩ hz1 ?_; (omega); (omega)) | refine k_loade rfl rfl (hcb _) ?_ | refine zA ?_ | refine k_call rfl hs rfl hf2 hc2 rfl ?_ | refine zB ?_)
    exact ⟨n - (j + 1), _, _, _, weak_sub (by exact zs) (by exact zm) (Nat.zero_le _), by omega, j + 1, by omega, rfl, rfl, rfl, rfl⟩
  · obtain rfl : j = n := by omega
    refine zR ?_
    (first | with_reducible refine q_endr ?_); refine rets1 Tryz.results30 (by exact zv) ?_
    rfl
theorem u5_eq : deqs [D.int .u64 5, .int .u64 0, .int .u64 0, .int .u64 0] [D.int .u64 5, .int .u64 0, .int .u64 0, .int .u64 0] = true := rfl
theorem bl_eq (a : ByteArray) : (a.toList == a.toList) = true := by simp
set_option maxHeartbeats 16000000 in
theorem sGuard_ok (x : GuT) (h : x.ok) : Pur Tryz.prog 12 [.agg x.cells, .agg x.cells] (.bool true) := by
  obtain ⟨_, ⟨_, _, p3, p4, _, _⟩, hlog, hhd, hdn⟩ := h
  have q3 := sQueue_ok x.g.past _ rfl (by omega)
  have q4 := sQueue_ok x.g.queue _ rfl (by omega)
  have b1 := sBodies_ok x.hd hhd.em _ rfl (by have := hhd.len; omega)
  have b2 := sBodies_ok x.dn hdn.em _ rfl (by have := hdn.len; omega)
  have l1 : x.la.length * 1 = (bs x.la).length := by rw [bs_len]; omega
  have l2 : x.si.length * 1 = (bs x.si).length := by rw [bs_len]; omega
  unfold GuT.cells guC bD mD
  generalize bdC x.hd = y3 at *
  generalize bdC x.dn = y4 at *
  generalize qsC x.f.past = z1 at *
  generalize qsC x.f.queue = z2 at *
  generalize qsC x.g.past = z3 at *
  generalize qsC x.g.queue = z4 at *
  refine pur_intro Tryz.func12 rfl Tryz.ntmps12 rfl (by first | rfl | assumption | exact bs_cl _) fun B => ?_
  repeat (first | refine zC ?_ | refine zA ?_ | refine k_call rfl q3 rfl rfl rfl rfl ?_ | refine k_call rfl q4 rfl rfl rfl rfl ?_ | refine k_call rfl b1 rfl rfl rfl rfl ?_ | refine k_call rfl b2 rfl rfl rfl rfl ?_ | refine k_eqa rfl rfl rfl rfl rfl u5_eq ?_ | refine k_b2s rfl Tryz.underlying9 Tryz.underlying5 rfl rfl ?_ | refine k_eqs rfl rfl rfl (bl_eq _) ?_ | refine zB ?_)
  (first | with_reducible refine q_endr ?_); refine rets1 Tryz.results12 (by exact zv) ?_
  rfl
end Go.Proofs.YtcfefmbbbfdppaaGreatDoor
namespace Go.Proofs.YtcfefmbbbfdppaaGreatDoor
open Go.ChangeShapes Go.WideShapes Go.RowKit Go.Joins Go.Lib Go.Stop
set_option linter.unusedVariables false
def laidL : List (String × DataW Unit) := [("bascule/keccak.rounds", Rows.laid_bascule_keccak_rounds), ("bascule/keccak.turns", Rows.laid_bascule_keccak_turns)]
theorem tab_at {W : World} {name : String} {k : IntKind} {zs : List Int} {g : Nat} (h : TabIs Tryz.prog W name k zs) (hg : Tryz.prog.globalNamed name = some g) : ∃ E fr, W.heap[g]? = some (.cells (zs.map (Value.int k)).toArray E fr) := by
  unfold TabIs World.var? at h
  rw [hg] at h
  simp only [Option.bind_some] at h
  split at h
  · rename_i cs E fr hh
    injection h with h
    subst h
    exact ⟨E, fr, hh⟩
  · cases h
theorem tabs_of {W : World} (h : laidMetH Tryz.prog laidL W) : GTab W [] := by
  have h' : laidMet Tryz.prog laidL W := h
  have t0 := tabIs_of_head (g := 0) (k := .u64) (zs := [1, 32898, 9223372036854808714, 9223372039002292224, 32907, 2147483649, 9223372039002292353, 9223372036854808585, 138, 136, 2147516425, 2147483658, 2147516555, 9223372036854775947, 9223372036854808713, 9223372036854808579, 9223372036854808578, 9223372036854775936, 32778, 9223372039002259466, 9223372039002292353, 9223372036854808704, 2147483649, 9223372039002292232]) (t := 193) (e := 25) (n := 24) (by kernel_rfl) (by kernel_rfl) Tryz.underlying193 Tryz.underlying25 (by kernel_rfl) (by kernel_rfl) h'
  have t1 := tabIs_of_head (g := 1) (k := .i64) (zs := [0, 1, 62, 28, 27, 36, 44, 6, 55, 20, 3, 10, 43, 25, 39, 41, 45, 15, 21, 8, 18, 2, 61, 56, 14]) (t := 196) (e := 3) (n := 25) (by kernel_rfl) (by kernel_rfl) Tryz.underlying196 Tryz.underlying3 (by kernel_rfl) (by kernel_rfl) (laidMet.tail h')
  have a0 := tab_at t0 (g := 0) (by kernel_rfl)
  have a1 := tab_at t1 (g := 1) (by kernel_rfl)
  intro x hx
  refine ⟨by simp, ?_⟩
  unfold gtab at hx
  rcases List.mem_cons.1 hx with rfl | hx
  · exact a0
  · rcases List.mem_cons.1 hx with rfl | hx
    · exact a1
    · cases hx
theorem door_met (os : Os) (args : Array Value) : laidMetH Tryz.prog laidL ((World.doorLaid Tryz.prog 400 os).forCall (fun _ _ => 0) ⟨#[], args, []⟩).memory :=
  laidMetH_of_parts3 (fuel := 8) (laidMet_of_run' 8 (by kernel_rfl) (by kernel_rfl)) (by kernel_rfl) (by kernel_rfl)
end Go.Proofs.YtcfefmbbbfdppaaGreatDoor
namespace Go.Proofs.YtcfefmbbbfdppaaGreatDoor.guardWord
open Go.ChangeShapes Go.WideShapes Go.RowKit Go.Joins Go.Lib Go.IntWalk
set_option linter.unusedVariables false
open Go.Proofs.YtcfefmbbbfdppaaGreatDoor
set_option maxRecDepth 100000
--nrm pt_all pt_x pt_y cv_all cv_p cv_a cv_b cv_n cv_g cv_gx pt_len cv_len rg_len ren_rl rl_all rl_m rl_len rl_nil pt_nil ptD_all ptD_nil ptD_len sg_all sg_r sg_s sg_len
set_option maxHeartbeats 32000000 in
theorem pur (zn k a b : Int) (s : ByteArray) (l : List RawT) (which : Int) : Pur Tryz.prog 3 [.int .i64 zn, .agg [.int .i64 k, .int .i64 a, .int .i64 b, .str s], .slice .frozen l.length (rws l), .int .i64 which] (.bool true) := by
  obtain ⟨kk, p, cb, n, gx, gy, T, hz, hk, G, hn, h1, hp, E, C, hp2, h30, _, t1, t2, t12⟩ := grps4 zn
  have hc := Curve_ok zn kk p cb n gx gy hz hk
  have hdm : 5 % n ≠ 0 := by rw [Nat.mod_eq_of_lt (by omega)]; decide
  have po := Point_ok G 5 (by decide) (by omega) hn
  replace po : Pur Tryz.prog 6 [.agg (cv p 0 cb n gx gy false), .agg [.int .u64 5, .int .u64 0, .int .u64 0, .int .u64 0]] (.tup [.agg (ptD (T 5)), .int .i64 0]) := po
  have hl : (l.take 12).length ≤ 12 := by rw [List.length_take]; omega
  have hlv := lived_ok k a b s l 12 (by decide)
  have hgt := guardTells_ok
  have hg := gof_start a b
  have hi := lv_inv (gofG a b) hg (l.take 12) (l.take 12).length (Nat.le_refl _) (by omega)
  have hw := lv_word (gofG a b) hg (l.take 12) (l.take 12).length (Nat.le_refl _) (by omega)
  generalize lv (gofG a b) (l.take 12) (l.take 12).length = x at *
  have hdl := hi.ok.dn.len
  have hhl := hi.ok.hd.len
  have hse : Pur Tryz.prog 8 [.agg x.cells, .slice .frozen (x.dn.length + x.hd.length) (bdC (x.dn ++ x.hd))] (.tup [.agg x.cells, .int .i64 0]) :=
    See_ok x hi.ok (x.dn ++ x.hd) (fun b hb => (hw.out b hb).2) _ (by rw [List.length_append]) (by omega) (fun _ => (x, 0)) rfl (fun k b hb => by
      have hm := List.mem_of_getElem? hb
      obtain ⟨o1, o2⟩ := hw.out b hm
      obtain ⟨i, r, hi2, rfl⟩ := hw.ms b hm
      exact ⟨false, meet_known x hi.ok _ o2 (by show (r.k % 3).toNat < 3; omega) (by show i < 256; omega) (hw.known _ hm) 188 o1 (by decide), fun h => (by cases h), fun _ => rfl⟩)
  rw [bdC_app] at hse
  have hno := fun b hb => gSign_no p cb n gx gy x hi.ok b (hw.out b (List.mem_append.2 (.inr hb))).2 (hw.apart b hb)
  have hat := fun i b (hb : x.dn[i]? = some b) => gSign_at p cb n gx gy x hi.ok b (hw.out b (List.mem_append.2 (.inl (List.mem_of_getElem? hb)))).2 i hb (hw.first i b hb)
  have hbo := fun i b (hb : x.dn[i]? = some b) => (hw.out b (List.mem_append.2 (.inl (List.mem_of_getElem? hb)))).2
  have hdc := bdC_cut x.dn hi.ok.dn.em
  have hdz := bdC_len x.dn hi.ok.dn.em
  have hhc := bdC_cut x.hd hi.ok.hd.em
  have hhz := bdC_len x.hd hi.ok.hd.em
  have hhm := hi.ok.hd.em
  have hsg := sGuard_ok x hi.ok
  have sdn : 0 + x.dn.length ≤ 16777216 := by omega
  have shd : x.dn.length + x.hd.length ≤ 16777216 := by omega
  have hdn0 : x.dn.length = 0 → x.dn = [] := List.eq_nil_of_length_eq_zero
  unfold GuT.cells guC bD mD at *
  generalize rws l = zl at *
  generalize bdC x.hd = y1 at *
  generalize bdC x.dn = y2 at *
  generalize bs x.la = y3 at *
  generalize bs x.si = y4 at *
  generalize qsC x.f.past = z1 at *
  generalize qsC x.f.queue = z2 at *
  generalize qsC x.g.past = z3 at *
  generalize qsC x.g.queue = z4 at *
  obtain ⟨nd, hnd⟩ : ∃ q, x.dn.length = q := ⟨_, rfl⟩
  obtain ⟨nh, hnh⟩ : ∃ q, x.hd.length = q := ⟨_, rfl⟩
  rw [hnd] at hlv hse hdz sdn shd hsg hdl
  rw [hnh] at hlv hse hhz shd hsg hhl
  have zd1 : nd * 38 = y2.length := hdz.symm
  have zh1 : nh * 38 = y1.length := hhz.symm
  refine pur_intro Tryz.func3 rfl Tryz.ntmps3 rfl (by first | rfl | assumption | exact bs_cl _) fun B => ?_
  repeat (first | (with_reducible refine R_nil ?_; try dsimp only [slots0, slots_ud, pt_all, pt_x, pt_y, cv_all, cv_p, cv_a, cv_b, cv_n, cv_g, cv_gx, pt_len, cv_len, rg_len, ren_rl, rl_all, rl_m, rl_len, rl_nil, pt_nil, ptD_all, ptD_nil, ptD_len, sg_all, sg_r, sg_s, sg_len, cells_U, agg_ud, drop0, dropS, takeS, take0, ud_nil, take_ud, take_ud0, drop_ud, drop_ud0, take_udk, D.cells, D.fz, D.fzs, List.take_succ_cons, List.take_zero, List.drop_succ_cons, List.drop_zero, List.cons_append, List.nil_append, List.append_eq, List.length_cons, List.length_nil, Nat.reduceAdd, Nat.reduceMul, Nat.reduceSub, Int.reduceAdd, Int.reduceSub, Int.reduceToNat, Int.reduceNeg, Int.reduceMul]) | refine zC ?_ | refine zA ?_ | refine k_call rfl hlv rfl rfl rfl rfl ?_ | refine k_call rfl hc rfl rfl rfl rfl ?_ | refine k_call rfl po rfl rfl rfl rfl ?_ | refine zB ?_)
  rw [hnd, hnh] at hno hat
  refine W_loopW (fun n' ρ m nx => ∃ j : Nat, j ≤ nh ∧ n' = nh - j ∧ ρ = [(42, .int .i64 (j : Int)), (41, .int .i64 (nh : Int)), (40, .slice .frozen nh y1), (13, .int .i64 0), (12, .ptr 3 0), (11, .ptr 2 0), (10, .bool true), (9, .ptr 1 0), (8, .bool false), (3, .int .i64 which)] ∧ m = [(3, some (.var 41 (ptD (T 5)))), (2, some (.var 43 (cv p 0 cb n gx gy false))), (1, some (.var 37 [.int .u64 5, .int .u64 0, .int .u64 0, .int .u64 0, .int .i64 x.f.l0, .int .i64 x.f.l1, .int .i64 x.f.l2, .int .i64 x.f.b0, .int .i64 x.f.b1, .int .i64 x.f.b2, .int .i64 x.f.now, .slice .frozen x.f.past.length z1, .slice .frozen x.f.queue.length z2, .int .i64 x.g.l0, .int .i64 x.g.l1, .int .i64 x.g.l2, .int .i64 x.g.b0, .int .i64 x.g.b1, .int .i64 x.g.b2, .int .i64 x.g.now, .slice .frozen x.g.past.length z3, .slice .frozen x.g.queue.length z4, .slice .frozen x.la.length y3, .slice .frozen x.si.length y4, .slice .frozen nh y1, .slice .frozen nd y2]))] ∧ nx = 4)
    ⟨_, _, _, _, (by exact zF (fun l => l)), 0, Nat.zero_le _, rfl, rfl, rfl, rfl⟩ ?_
  rintro n' ρ m nx ⟨j, hj, rfl, rfl, rfl, rfl⟩
  by_cases hlt : j < nh
  · obtain ⟨c, hb⟩ : ∃ c, x.hd[j]? = some c := ⟨_, List.getElem?_eq_getElem (by omega)⟩
    have hbm := List.mem_of_getElem? hb
    have hs := hno c hbm
    have hcb := hhc j c hb
    have hce := hhm c hbm
    have hcball := bd_all hce
    have hcput := bd_put hce
    have hcl := bd_len hce
    have hcfz1 : D.fzs c.cells = c.cells := by have := bd_fz c; simpa [D.fzs, D.fz] using this
    have hcc := bd_cls c
    have hc38 : (D.agg c.cells).cells.length = 38 := hcl
    have hx3 : ∀ z w : List D, D.fzs z = z → D.fzs w = w → D.fzs [D.agg z, D.agg w, D.agg c.cells] = [D.agg z, D.agg w, D.agg c.cells] := fun z w hz hw => by
      show [D.agg (D.fzs z), D.agg (D.fzs w), D.agg (D.fzs c.cells)] = _; rw [hz, hw, hcfz1]
    have hc3 : ∀ z w : List D, D.cls z = true → D.cls w = true → D.cls [D.agg z, D.agg w, D.agg c.cells] = true := fun z w hz hw => by
      show (D.cls z && (D.cls w && (D.cls c.cells && true))) = true; rw [hz, hw, hcc]; rfl
    generalize c.cells = bc at *
    repeat (first | (with_reducible refine R_nil ?_; try dsimp only [slots0, slots_ud, pt_all, pt_x, pt_y, cv_all, cv_p, cv_a, cv_b, cv_n, cv_g, cv_gx, pt_len, cv_len, rg_len, ren_rl, rl_all, rl_m, rl_len, rl_nil, pt_nil, ptD_all, ptD_nil, ptD_len, sg_all, sg_r, sg_s, sg_len, cells_U, agg_ud, drop0, dropS, takeS, take0, ud_nil, take_ud, take_ud0, drop_ud, drop_ud0, take_udk, D.cells, D.fz, D.fzs, List.take_succ_cons, List.take_zero, List.drop_succ_cons, List.drop_zero, List.cons_append, List.nil_append, List.append_eq, List.length_cons, List.length_nil, Nat.reduceAdd, Nat.reduceMul, Nat.reduceSub, Int.reduceAdd, Int.reduceSub, Int.reduceToNat, Int.reduceNeg, Int.reduceMul]) | refine zC ?_ | (refine k_indexAddrs rfl rfl rfl ⟨?_, ?_⟩ zh1 ?_; (omega); (omega)) | refine k_loade rfl rfl (hcb _) ?_ | refine k_store rfl rfl rfl rfl (by exact hc38) rfl (by exact hcput _ rfl) ?_ | refine k_load rfl rfl rfl (hcball _) ?_ | refine zA ?_ | refine k_call rfl hs rfl (by exact hx3 _ _ rfl rfl) (by exact hc3 _ _ rfl rfl) rfl ?_ | refine zB ?_)
    exact ⟨nh - (j + 1), _, _, _, (by exact zF (fun l => l)), by omega, j + 1, by omega, rfl, rfl, rfl, rfl⟩
  · have ej : j = nh := by omega
    subst ej
    rcases Nat.eq_zero_or_pos nd with h0 | h0
    · subst h0
      repeat (first | (with_reducible refine R_nil ?_; try dsimp only [slots0, slots_ud, pt_all, pt_x, pt_y, cv_all, cv_p, cv_a, cv_b, cv_n, cv_g, cv_gx, pt_len, cv_len, rg_len, ren_rl, rl_all, rl_m, rl_len, rl_nil, pt_nil, ptD_all, ptD_nil, ptD_len, sg_all, sg_r, sg_s, sg_len, cells_U, agg_ud, drop0, dropS, takeS, take0, ud_nil, take_ud, take_ud0, drop_ud, drop_ud0, take_udk, D.cells, D.fz, D.fzs, List.take_succ_cons, List.take_zero, List.drop_succ_cons, List.drop_zero, List.cons_append, List.nil_append, List.append_eq, List.length_cons, List.length_nil, Nat.reduceAdd, Nat.reduceMul, Nat.reduceSub, Int.reduceAdd, Int.reduceSub, Int.reduceToNat, Int.reduceNeg, Int.reduceMul]) | refine zC ?_ | (refine k_append rfl rfl rfl ?_ rfl zd1 rfl sdn rfl (Nat.zero_add _) (List.nil_append _) ?_; (rfl)) | (refine k_append rfl rfl rfl ?_ zd1 zh1 rfl shd rfl rfl rfl ?_; (rfl)) | refine zA ?_ | refine k_call rfl hse rfl rfl rfl rfl ?_ | refine k_call rfl hgt rfl rfl rfl rfl ?_ | refine zB ?_)
      (first | with_reducible refine q_endr ?_); refine rets1 Tryz.results3 (by exact zv) ?_
      rfl
    · obtain ⟨q, eq, hq⟩ := gmod which nd h0
      have pk := p_picked which nd q (by omega) (by omega) eq
      obtain ⟨c, hb⟩ : ∃ c, x.dn[q]? = some c := ⟨_, List.getElem?_eq_getElem (by omega)⟩
      have hck := hbo q c hb
      have hsum := pSum_ok c hck
      have hzl := kec_len (kec c.out)
      have hcb := hdc q c hb
      have hgs := hat q c hb (kec (kec c.out)) hzl hsum
      generalize kec (kec c.out) = z at *
      obtain ⟨rr, ss, o, i, xx, yy, sig, mk⟩ := Make_ok G E hn hp hp2 h30 t1 t2 t12 5 (by decide) (by omega) z hzl
      have K := chk_sig G E hn hp sig z hzl rfl hdm
      have hs := hgs rr ss o mk
      clear hgs hat hbo hno
      have hce := hck.e
      have hcball := bd_all hce
      have hcput := bd_put hce
      have hcl := bd_len hce
      have hcf1 := bd_fz c
      have hcc1 := bd_cl c
      have hcfz1 : D.fzs c.cells = c.cells := by have := bd_fz c; simpa [D.fzs, D.fz] using this
      have hcc := bd_cls c
      have hc38 : (D.agg c.cells).cells.length = 38 := hcl
      have hx3 : ∀ z w : List D, D.fzs z = z → D.fzs w = w → D.fzs [D.agg z, D.agg w, D.agg c.cells] = [D.agg z, D.agg w, D.agg c.cells] := fun z w hz hw => by
        show [D.agg (D.fzs z), D.agg (D.fzs w), D.agg (D.fzs c.cells)] = _; rw [hz, hw, hcfz1]
      have hc3 : ∀ z w : List D, D.cls z = true → D.cls w = true → D.cls [D.agg z, D.agg w, D.agg c.cells] = true := fun z w hz hw => by
        show (D.cls z && (D.cls w && (D.cls c.cells && true))) = true; rw [hz, hw, hcc]; rfl
      have hzc : D.cl (.tup [.agg (bs z), .int .i64 0]) = true := by
        show (D.cls (bs z) && (true && true)) = true
        rw [bs_cl]; rfl
      generalize T 5 = qq at *
      have hfz4 : D.fzs [D.agg (cv p 0 cb n gx gy false), D.agg (ptD qq), D.agg (bs z), D.agg (sg rr ss (o : Int))] = [D.agg (cv p 0 cb n gx gy false), D.agg (ptD qq), D.agg (bs z), D.agg (sg rr ss (o : Int))] := by
        show D.agg (cv p 0 cb n gx gy false) :: D.agg (ptD qq) :: D.agg (D.fzs (bs z)) :: _ = _
        rw [bs_fzs]; rfl
      have hcl4 : D.cls [D.agg (cv p 0 cb n gx gy false), D.agg (ptD qq), D.agg (bs z), D.agg (sg rr ss (o : Int))] = true := by
        show (true && (true && (D.cls (bs z) && true))) = true
        rw [bs_cl]; rfl
      generalize c.cells = bc at *
      repeat (first | (with_reducible refine R_nil ?_; try dsimp only [slots0, slots_ud, pt_all, pt_x, pt_y, cv_all, cv_p, cv_a, cv_b, cv_n, cv_g, cv_gx, pt_len, cv_len, rg_len, ren_rl, rl_all, rl_m, rl_len, rl_nil, pt_nil, ptD_all, ptD_nil, ptD_len, sg_all, sg_r, sg_s, sg_len, cells_U, agg_ud, drop0, dropS, takeS, take0, ud_nil, take_ud, take_ud0, drop_ud, drop_ud0, take_udk, D.cells, D.fz, D.fzs, List.take_succ_cons, List.take_zero, List.drop_succ_cons, List.drop_zero, List.cons_append, List.nil_append, List.append_eq, List.length_cons, List.length_nil, Nat.reduceAdd, Nat.reduceMul, Nat.reduceSub, Int.reduceAdd, Int.reduceSub, Int.reduceToNat, Int.reduceNeg, Int.reduceMul]) | refine zC ?_ | (refine k_append rfl rfl rfl ?_ rfl zd1 rfl sdn rfl (Nat.zero_add _) (List.nil_append _) ?_; (rfl)) | (refine k_append rfl rfl rfl ?_ zd1 zh1 rfl shd rfl rfl rfl ?_; (rfl)) | (refine k_indexAddrs rfl rfl rfl ⟨?_, ?_⟩ zd1 ?_; (omega); (omega)) | refine k_loade rfl rfl (hcb _) ?_ | refine k_store rfl rfl rfl rfl (by exact hc38) rfl (by exact hcput _ rfl) ?_ | refine k_load rfl rfl rfl (hcball _) ?_ | refine k_store rfl rfl rfl rfl (by exact z_len z hzl) rfl (by exact z_put z hzl _ rfl) ?_ | refine k_load rfl rfl rfl (z_all z hzl _) ?_ | refine zA ?_ | refine k_call rfl hse rfl rfl rfl rfl ?_ | refine k_call rfl hgt rfl rfl rfl rfl ?_ | refine k_call rfl pk rfl rfl rfl rfl ?_ | refine k_call rfl hs rfl (by exact hx3 _ _ rfl rfl) (by exact hc3 _ _ rfl rfl) rfl ?_ | refine k_call rfl hsum rfl hcf1 hcc1 hzc ?_ | refine k_call rfl hsg rfl rfl rfl rfl ?_ | refine k_call rfl K rfl hfz4 hcl4 rfl ?_ | refine zB ?_)
      (first | with_reducible refine q_endr ?_); refine rets1 Tryz.results3 (by exact zv) ?_
      rfl
theorem walk {w : World} {v : Value} (l : List RawT) (hok : ∀ x ∈ l, x.ok) (hr : Rep (bare (allhw w)) w (.slice .frozen l.length (rws l)) v) (hG : GTab w []) (zn k a b : Int) (s : ByteArray) (which : Int) : Calls Tryz.prog 3 #[.int .i64 zn, .agg #[.int .i64 k, .int .i64 a, .int .i64 b, .string s], v, .int .i64 which] w fun e w' => e = .returned (.bool true) ∧ New w w' :=
  calls_of_purS (pur zn k a b s l which) (.cons (.int _ _) (.cons (rep_raw _ _ _ _ _ _) (.cons hr (.cons (.int _ _) .nil)))) hG
set_option maxRecDepth 100000 in
theorem lifted (os : Os) (started : os.Started) (H : Type) (enc : TypeId × Value → H) :
    ReturnsInHanded {} Tryz.checked os 3 .any (fun w args => (Rows.guardWordSpec.pre enc Tryz.prog Tryz.f3 [] false w args ∧ laidMetH Tryz.prog laidL w) ∧ sizedMet enc Tryz.prog Tryz.f3 (OpenSpec.ofChange Rows.guardWordSpec) false w args) (Rows.guardWordSpec.post enc Tryz.prog Tryz.f3 false true false false) := by
  refine returnsInHanded_of_change_and (C := Tryz.checked) (X := fun w _ => laidMetH Tryz.prog laidL w) (fun _ _ _ hh h => h.of_heap hh) own started (by kernel_rfl) Tryz.func3
    (ChangeSpec.witness_shaped (enc := enc) (C := Tryz.checked) (os := os) (X := fun w _ => laidMetH Tryz.prog laidL w) false (World.doorLaid Tryz.prog 400 os) #[.int .i64 0, .agg #[.int .i64 0, .int .i64 0, .int .i64 0, .string ⟨#[]⟩], .slice none 0 0, .int .i64 0] 8 rfl (World.shaped_of_RefB (by kernel_rfl) (by kernel_rfl)) (by kernel_rfl) (by kernel_rfl) (by kernel_rfl) (door_met os _)) ?_
  intro W base args ds gs before hval0 hW _ _ hL _
  have hG := tabs_of hL
  have hval : ∀ (j : Nat) t v, Tryz.f3.params[j]? = some t → args[j]? = some v → Value.okWide Tryz.prog W .any base t v := hval0
  have hW' := hW
  obtain ⟨p, q, hA0, hV, rfl, hfz, hnd⟩ := hW
  have hA : DataW.TrodAll enc Tryz.prog W 0 (fun _ => true) true Tryz.f3.params.toList args.toList ds p := hA0
  rw [Tryz.params3] at hA hval
  obtain ⟨v0, vs0, d0, ds0, p0, q0, hargs, rfl, rfl, h0, r0⟩ := trodAll_cons hA
  obtain ⟨v1, vs1, d1, ds1, p1, q1, rfl, rfl, rfl, h1, r1⟩ := trodAll_cons r0
  obtain ⟨v2, vs2, d2, ds2, p2, q2, rfl, rfl, rfl, h2, r2⟩ := trodAll_cons r1
  obtain ⟨v3, vs3, d3, ds3, p3, q3, rfl, rfl, rfl, h3, r3⟩ := trodAll_cons r2
  obtain ⟨rfl, rfl, rfl⟩ := trodAll_nil r3
  obtain rfl : args = #[v0, v1, v2, v3] := by cases args; simp_all
  obtain ⟨rfl, rfl⟩ := trodVars_none hV
  obtain ⟨n1, rfl, rfl, rfl, wn1⟩ := open_int Tryz.underlying3 (hval 0 3 v0 rfl rfl) h0
  obtain ⟨k2, a2, b2, s2, rfl, wk2, wa2, wb2, ws2⟩ := open_raw (hval 1 23 v1 rfl rfl) h1
  obtain ⟨l3, wl3, hl3⟩ := open_raws (hval 2 24 v2 rfl rfl) h2
  obtain ⟨n4, rfl, rfl, rfl, wn4⟩ := open_int Tryz.underlying3 (hval 3 3 v3 rfl rfl) h3
  refine (walk l3 wl3 hl3 hG n1 k2 a2 b2 s2 n4).mono fun e W' ⟨he, hN⟩ => ?_
  subst he
  exact ⟨_, rfl, law_post laidOut (by kernel_rfl) (by kernel_rfl) Tryz.underlying4 rfl hW' rfl hN⟩
theorem holds : Rows.GuardWordSaid :=
  OpenClaim.holds_of_wide 3 Tryz.f3 rfl rfl rfl rfl rfl rfl rfl ⟨rfl, rfl, rfl, rfl, rfl⟩ rfl rfl rfl rfl rfl (by kernel_rfl) Tryz.func3 (by kernel_rfl)
    (of_decide_eq_true (by kernel_rfl)) (by unfold Func.isWrapper; first | (rw [if_pos (by decide +kernel)]; kernel_rfl) | (rw [if_neg (by decide +kernel)]; exact ⟨rfl, rfl⟩))
    (fun os started H enc _ => lifted os started H enc)
theorem card : Rows.GuardWordCardSaid :=
  Claim7.holds_tied_plain_at .later [] [.data, .data] true (true, "3e3152934091b0b43b769df36f352be6d3d37607ff9ef1d459650ea21a6afdd2") false
    holds (fun _ h => by cases h) (by kernel_rfl) (fun _ h => by cases h) guardWord_row_tie rfl ⟨rfl, rfl⟩ (by kernel_rfl) rfl
    (fun f fn hf hfn => by
      obtain rfl : f = 3 := Option.some.inj ((show Tryz.prog.funcNamed "bascule/basculekeep.GuardWord" = some 3 by kernel_rfl).symm.trans hf) |>.symm
      obtain rfl : fn = Tryz.f3 := (Option.some.inj (Tryz.func3.symm.trans hfn)).symm
      exact ⟨by kernel_rfl, fun j t ht => by
        rw [Tryz.params3] at ht
        have hall : (Tryz.f3.params.all fun u => !Tryz.prog.wantsStandIn u) = true := by kernel_rfl
        have hm := Array.mem_of_getElem? ht
        rw [Tryz.params3] at hall
        exact (show Tryz.prog.wantsStandIn t = false by simpa using Array.all_eq_true_iff_forall_mem.1 hall t hm)⟩)
    (by kernel_rfl)
#print axioms card
end Go.Proofs.YtcfefmbbbfdppaaGreatDoor.guardWord
