/- copy of a slice's bytes into an array's slice. Of any program. No conditions. -/
import Derived.Test.YtcfefmbbbfdppaaGreatDoorSBytes
import Derived.Test.YtcfefmbbbfdppaaGreatDoorSRow
import Derived.Test.YtcfefmbbbfdppaaGreatDoorSUpl
import Derived.Test.YtcfefmbbbfdppaaGreatDoorSDMore
import Derived.Test.YtcfefmbbbfdppaaGreatDoorSWide1
namespace Go.Proofs.YtcfefmbbbfdppaaGreatDoor
open Go.RowKit Go.Lib Go.IntWalk
set_option linter.unusedVariables false
set_option maxRecDepth 100000
theorem pur_up {P : Program} {F : FuncId} {ds : List D} {d e : D} (h : Pur P F ds d) (u : Up d e) : Pur P F ds e := fun w hw vs hg hok hr => by
  refine (h w hw vs hg hok hr).mono fun x w' hx => ?_
  obtain ⟨v, hw', h1, h2, h3, h4, h5⟩ := hx
  exact ⟨v, hw', h1, h2, h3, h4, u.rep h5⟩
structure GuT where
  f : GT
  g : GT
  la : List UInt8
  si : List UInt8
  hd : List BodyT
  dn : List BodyT
def guC (f g : GT) (la si hd dn : D) : List D := [.int .u64 5, .int .u64 0, .int .u64 0, .int .u64 0,
  .int .i64 f.l0, .int .i64 f.l1, .int .i64 f.l2, .int .i64 f.b0, .int .i64 f.b1, .int .i64 f.b2, .int .i64 f.now, .slice .frozen f.past.length (qsC f.past), .slice .frozen f.queue.length (qsC f.queue),
  .int .i64 g.l0, .int .i64 g.l1, .int .i64 g.l2, .int .i64 g.b0, .int .i64 g.b1, .int .i64 g.b2, .int .i64 g.now, .slice .frozen g.past.length (qsC g.past), .slice .frozen g.queue.length (qsC g.queue), la, si, hd, dn]
def bD (l : List UInt8) : D := .slice .frozen l.length (bs l)
def mD (l : List BodyT) : D := .slice .frozen l.length (bdC l)
def GuT.cells (x : GuT) : List D := guC x.f x.g (bD x.la) (bD x.si) (mD x.hd) (mD x.dn)
structure Ml (l : List BodyT) : Prop where
  ok : ∀ b ∈ l, b.ok
  len : l.length ≤ 200
theorem Ml.em {l : List BodyT} (h : Ml l) : Em l := fun b hb => (h.ok b hb).e
theorem Ml.ld {l : List BodyT} (h : Ml l) : ∀ b ∈ l, b.l.length ≤ 10000 := fun b hb => by have := (h.ok b hb).l; omega
structure GuT.ok (x : GuT) : Prop where
  f : x.f.ok
  g : x.g.ok
  log : x.la.length + x.si.length ≤ 9000
  hd : Ml x.hd
  dn : Ml x.dn
theorem qfresh_ok (l : List QT) (n : Nat) (hn : l.length = n) (h9 : n ≤ 1000) : Pur Tryz.prog 56 [.slice .frozen n (qsC l)] (.slice .frozen n (qsC l)) := by
  have hp := qs_len l
  rw [hn] at hp
  generalize qsC l = z at *
  have hz1 : n * 4 = z.length := hp.symm
  have s1 : 0 + n ≤ 16777216 := by omega
  refine pur_intro Tryz.func56 rfl Tryz.ntmps56 rfl (by first | rfl | assumption | exact bs_cl _) fun B => ?_
  repeat (first | refine zC ?_ | (refine k_append rfl rfl rfl ?_ rfl hz1 rfl s1 rfl (Nat.zero_add _) (List.nil_append _) ?_; (rfl)) | refine zAB ?_)
  (first | with_reducible refine q_endr ?_); refine rets1 Tryz.results56 (by exact zv) ?_
  rfl
set_option maxHeartbeats 16000000 in
theorem fresh_fn (x : GuT) (h : x.ok) : Fn Tryz.prog 25 0 [.agg x.cells] [] (.agg (guC x.f x.g (bD x.la) (bD x.si) (.slice (.own 0) x.hd.length (bdC x.hd)) (.slice (.own 1) x.dn.length (bdC x.dn)))) [(0, some (.tok 50 38)), (1, some (.tok 50 38))] := by
  obtain ⟨⟨_, _, p1, p2, _, _⟩, ⟨_, _, p3, p4, _, _⟩, hlog, hhd, hdn⟩ := h
  have q1 := qfresh_ok x.f.past _ rfl (by omega)
  have q2 := qfresh_ok x.f.queue _ rfl (by omega)
  have q3 := qfresh_ok x.g.past _ rfl (by omega)
  have q4 := qfresh_ok x.g.queue _ rfl (by omega)
  have b1 := bodies_fn x.hd hhd.em hhd.ld _ rfl (by have := hhd.len; omega)
  have b2 := bodies_fn x.dn hdn.em hdn.ld _ rfl (by have := hdn.len; omega)
  have l1 : x.la.length * 1 = (bs x.la).length := by rw [bs_len]; omega
  have l2 : x.si.length * 1 = (bs x.si).length := by rw [bs_len]; omega
  have s1 : 0 + x.la.length ≤ 16777216 := by omega
  have s2 : 0 + x.si.length ≤ 16777216 := by omega
  unfold GuT.cells guC bD mD
  generalize bs x.la = y1 at *
  generalize bs x.si = y2 at *
  generalize bdC x.hd = y3 at *
  generalize bdC x.dn = y4 at *
  generalize qsC x.f.past = z1 at *
  generalize qsC x.f.queue = z2 at *
  generalize qsC x.g.past = z3 at *
  generalize qsC x.g.queue = z4 at *
  refine fn_intro Tryz.func25 rfl Tryz.ntmps25 rfl fun B => ?_
  repeat (first | refine zC ?_ | (refine k_append rfl rfl rfl ?_ rfl l1 rfl s1 rfl (Nat.zero_add _) (List.nil_append _) ?_; (rfl)) | (refine k_append rfl rfl rfl ?_ rfl l2 rfl s2 rfl (Nat.zero_add _) (List.nil_append _) ?_; (rfl)) | refine zA ?_ | refine k_callv rfl q1 rfl rfl rfl rfl rfl ?_ | refine k_callv rfl q2 rfl rfl rfl rfl rfl ?_ | refine k_callv rfl q3 rfl rfl rfl rfl rfl ?_ | refine k_callv rfl q4 rfl rfl rfl rfl rfl ?_ | refine k_callf (fun l => l + 6) [0] (7) rfl (b1) rfl (by exact zus) (rfl) (by exact zmf) rfl rfl rfl rfl (rfl) (rfl) rfl rfl rfl rfl ?_ | refine k_callf (fun l => l + 7) [0] (8) rfl (b2) rfl (by exact zus) (rfl) (by exact zmf) rfl rfl rfl rfl (rfl) (rfl) rfl rfl rfl rfl ?_ | refine zB ?_)
  exact (q_endf (fun l => l + 6) 2 (RetsF.r1 (RetV.cell _ _ _ _ _ _ _ _ inferInstance rfl rfl rfl) (.agg_ (by (repeat refine Ups.cons (by first | exact Up.refl _ | exact Up.nil _ | exact Up.fz _ _ _) ?_); exact Ups.nil))) rfl (by repeat (first | exact trivial | refine ⟨⟨rfl, _, rfl, Ups.refl _, rfl⟩, ?_⟩ | refine ⟨⟨rfl, rfl⟩, ?_⟩)) rfl rfl rfl).2
set_option maxHeartbeats 16000000 in
theorem fresh_ok (x : GuT) (h : x.ok) : Pur Tryz.prog 25 [.agg x.cells] (.agg x.cells) := by
  obtain ⟨⟨_, _, p1, p2, _, _⟩, ⟨_, _, p3, p4, _, _⟩, hlog, hhd, hdn⟩ := h
  have q1 := qfresh_ok x.f.past _ rfl (by omega)
  have q2 := qfresh_ok x.f.queue _ rfl (by omega)
  have q3 := qfresh_ok x.g.past _ rfl (by omega)
  have q4 := qfresh_ok x.g.queue _ rfl (by omega)
  have b1 := bodies_fn x.hd hhd.em hhd.ld _ rfl (by have := hhd.len; omega)
  have b2 := bodies_fn x.dn hdn.em hdn.ld _ rfl (by have := hdn.len; omega)
  have l1 : x.la.length * 1 = (bs x.la).length := by rw [bs_len]; omega
  have l2 : x.si.length * 1 = (bs x.si).length := by rw [bs_len]; omega
  have s1 : 0 + x.la.length ≤ 16777216 := by omega
  have s2 : 0 + x.si.length ≤ 16777216 := by omega
  unfold GuT.cells guC bD mD
  generalize bs x.la = y1 at *
  generalize bs x.si = y2 at *
  generalize bdC x.hd = y3 at *
  generalize bdC x.dn = y4 at *
  generalize qsC x.f.past = z1 at *
  generalize qsC x.f.queue = z2 at *
  generalize qsC x.g.past = z3 at *
  generalize qsC x.g.queue = z4 at *
  refine pur_intro Tryz.func25 rfl Tryz.ntmps25 rfl (by first | rfl | assumption | exact bs_cl _) fun B => ?_
  repeat (first | refine zC ?_ | (refine k_append rfl rfl rfl ?_ rfl l1 rfl s1 rfl (Nat.zero_add _) (List.nil_append _) ?_; (rfl)) | (refine k_append rfl rfl rfl ?_ rfl l2 rfl s2 rfl (Nat.zero_add _) (List.nil_append _) ?_; (rfl)) | refine zA ?_ | refine k_callv rfl q1 rfl rfl rfl rfl rfl ?_ | refine k_callv rfl q2 rfl rfl rfl rfl rfl ?_ | refine k_callv rfl q3 rfl rfl rfl rfl rfl ?_ | refine k_callv rfl q4 rfl rfl rfl rfl rfl ?_ | refine k_callf (fun l => l + 6) [0] (7) rfl (b1) rfl (by exact zus) (rfl) (by exact zmf) rfl rfl rfl rfl (rfl) (rfl) rfl rfl rfl rfl ?_ | refine k_callf (fun l => l + 7) [0] (8) rfl (b2) rfl (by exact zus) (rfl) (by exact zmf) rfl rfl rfl rfl (rfl) (rfl) rfl rfl rfl rfl ?_ | refine zB ?_)
  (first | with_reducible refine q_endr ?_); refine rets1 Tryz.results25 (by exact zv) ?_
  rfl
def u5 : D := .agg [.int .u64 5, .int .u64 0, .int .u64 0, .int .u64 0]
set_option maxHeartbeats 16000000 in
theorem Begin_fn (g : GT) (hg : g.ok) : Fn Tryz.prog 14 0 [u5, .agg g.cells] [] (.tup [.agg (guC g g (.slice .frozen 0 []) (.slice .frozen 0 []) (.slice (.own 0) 0 []) (.slice (.own 1) 0 [])), .int .i64 0]) [(0, some (.tok 50 38)), (1, some (.tok 50 38))] := by
  have hck := gCheck_ok g hg
  have fr := fresh_fn ⟨g, g, [], [], [], []⟩ ⟨hg, hg, Nat.zero_le _, ⟨fun b h => absurd h List.not_mem_nil, Nat.zero_le _⟩, ⟨fun b h => absurd h List.not_mem_nil, Nat.zero_le _⟩⟩
  replace fr : Fn Tryz.prog 25 0 [.agg (guC g g (.slice .frozen 0 []) (.slice .frozen 0 []) (.slice .frozen 0 []) (.slice .frozen 0 []))] [] (.agg (guC g g (.slice .frozen 0 []) (.slice .frozen 0 []) (.slice (.own 0) 0 []) (.slice (.own 1) 0 []))) [(0, some (.tok 50 38)), (1, some (.tok 50 38))] := fr
  have gcut : ∀ (l0 l1 l2 b0 b1 b2 now : D) (p q : D) ze, cut ⟨true, 9, ze⟩ 0 [l0, l1, l2, b0, b1, b2, now, p, q] = some (.agg [l0, l1, l2, b0, b1, b2, now, p, q]) := fun _ _ _ _ _ _ _ _ _ _ => rfl
  unfold GT.cells gC qD at *
  unfold guC at *
  unfold u5
  generalize qsC g.past = z1 at *
  generalize qsC g.queue = z2 at *
  refine fn_intro Tryz.func14 rfl Tryz.ntmps14 rfl fun B => ?_
  repeat (first | refine zC ?_ | refine k_load rfl rfl rfl (gcut _ _ _ _ _ _ _ _ _ _) ?_ | refine zA ?_ | refine k_call rfl hck rfl rfl rfl rfl ?_ | refine k_callf (fun l => l + 3) [0, 1] (5) rfl (fr) rfl (.cons (.agg_ (by (repeat refine Ups.cons (by first | exact Up.refl _ | exact Up.nil _ | exact Up.fz _ _ _) ?_); exact Ups.nil)) .nil) (rfl) (by exact zmf) rfl rfl rfl rfl (rfl) (rfl) rfl rfl rfl rfl ?_ | refine zB ?_)
  first | exact (q_endf (fun l => l + 3) 2 (RetsF.r2 (by exact zv) (by exact zu) (by exact zv) (by exact zu)) rfl (by repeat (first | exact trivial | refine ⟨⟨rfl, _, rfl, Ups.refl _, rfl⟩, ?_⟩ | refine ⟨⟨rfl, rfl⟩, ?_⟩)) rfl rfl rfl).2 | exact (q_endf (fun l => l + 3) 2 (RetsF.r2 (by exact zv) (by exact zu) (by exact zv) (by exact zu)) rfl (by repeat (first | exact trivial | refine ⟨⟨rfl, _, rfl, Ups.refl _, rfl⟩, ?_⟩ | refine ⟨⟨rfl, rfl⟩, ?_⟩)) rfl rfl rfl).1
theorem hours_ok (n : Nat) (h : n ≤ 1000) : Pur Tryz.prog 41 [.int .i64 n] (.slice .frozen 3 (bs [2, UInt8.ofNat (n / 256), UInt8.ofNat n])) := by
  have e1 : (n : Int).fdiv (2 ^ (min (8 : Int).toNat IntKind.i64.bits)) = ((n / 256 : Nat) : Int) := by
    show (n : Int).fdiv 256 = _
    rw [Int.fdiv_eq_ediv_of_nonneg _ (by decide)]; omega
  have e2 : IntKind.u8.wrap ((n / 256 : Nat) : Int) = (((UInt8.ofNat (n / 256)).toNat : Nat) : Int) := by rw [UInt8.toNat_ofNat', IntKind.wrap_u8]; omega
  have e3 : IntKind.u8.wrap (n : Int) = (((UInt8.ofNat n).toNat : Nat) : Int) := by rw [UInt8.toNat_ofNat', IntKind.wrap_u8]; omega
  generalize UInt8.ofNat (n / 256) = a at *
  generalize UInt8.ofNat n = b at *
  refine pur_intro Tryz.func41 rfl Tryz.ntmps41 rfl (by first | rfl | assumption | exact bs_cl _) fun B => ?_
  repeat (first | refine zC ?_ | (refine k_shr rfl rfl rfl ?_ e1 ?_; (decide)) | refine k_conv rfl rfl e2 ?_ | refine k_conv rfl rfl e3 ?_ | refine zAB ?_)
  (first | with_reducible refine q_endr ?_); refine rets1 Tryz.results41 (by exact zv) ?_
  rfl
theorem meeting_ok (b : BodyT) (h : b.ok) (n : Nat) (hn : b.out.length = n) : Pur Tryz.prog 58 [.agg b.cells] (.tup [.slice .frozen (1 + n) (bs (1 :: b.out)), .int .i64 0]) := by
  have hb := pBytes_ok b h n hn
  have hall := bd_all h.e
  have hf := bd_fz b
  have hc := bd_cl b
  have hbl : n * 1 = (bs b.out).length := by rw [bs_len, hn]; omega
  have hn9 : n ≤ 1000 := by rw [← hn, b.out_len h]; have := h.l; omega
  have hsm : 1 + n ≤ 16777216 := by omega
  have hcat : [D.int .u8 1] ++ bs b.out = bs (1 :: b.out) := rfl
  generalize bs (1 :: b.out) = z1 at *
  generalize bs b.out = z at *
  generalize b.cells = bc at *
  refine pur_intro Tryz.func58 rfl Tryz.ntmps58 rfl (by first | rfl | assumption | exact bs_cl _) fun B => ?_
  repeat (first | refine zC ?_ | refine k_load rfl rfl rfl (hall _) ?_ | (refine k_append rfl rfl rfl ?_ rfl hbl rfl hsm rfl rfl (by exact hcat) ?_; (rfl)) | refine zA ?_ | refine k_call rfl hb rfl hf hc rfl ?_ | refine zB ?_)
  (first | with_reducible refine q_endr ?_); refine rets2 Tryz.results58 (by exact zv) (by exact zv) ?_ ?_
  · rfl
  · rfl
theorem Sync_fz (a b : By) (h : a.length + b.length ≤ 9000) : Pur Tryz.prog 78 [.agg (lg a b)] (.agg (lg (a ++ b) [])) := pur_up (Sync_at a b h) (.agg_ (lgn_ups _))
set_option maxHeartbeats 16000000 in
theorem kept_ok (x : GuT) (h : x.ok) (hsi : x.si = []) (r : List UInt8) (hr : r.length ≤ 200) (hl : x.la.length + r.length + 3 ≤ 9000) : Pur Tryz.prog 40 [.agg x.cells, .slice .frozen r.length (bs r)] (.tup [.agg (GuT.cells ⟨x.f, x.g, x.la ++ rec8 r, [], x.hd, x.dn⟩), .int .i64 0]) := by
  have ha := Append_ok x.la [] r hr (by rw [List.length_nil]; omega)
  have hrl := rec8_len r
  have hs := Sync_fz x.la (rec8 r) (by omega)
  rw [List.nil_append] at ha
  unfold GuT.cells
  rw [hsi]
  unfold guC bD mD lg at *
  generalize x.la ++ rec8 r = la2 at *
  generalize bs x.la = y1 at *
  generalize bs la2 = y2 at *
  generalize bs (rec8 r) = y3 at *
  generalize bdC x.hd = y5 at *
  generalize bdC x.dn = y4 at *
  generalize qsC x.f.past = z1 at *
  generalize qsC x.f.queue = z2 at *
  generalize qsC x.g.past = z3 at *
  generalize qsC x.g.queue = z4 at *
  generalize bs r = y6 at *
  refine pur_intro Tryz.func40 rfl Tryz.ntmps40 rfl (by first | rfl | assumption | exact bs_cl _) fun B => ?_
  repeat (first | refine zC ?_ | refine zA ?_ | refine k_call rfl ha rfl rfl rfl rfl ?_ | refine k_call rfl hs rfl rfl rfl rfl ?_ | refine zB ?_)
  (first | with_reducible refine q_endr ?_); refine rets2 Tryz.results40 (by exact zv) (by exact zv) ?_ ?_
  · rfl
  · rfl
end Go.Proofs.YtcfefmbbbfdppaaGreatDoor
namespace Go.Proofs.YtcfefmbbbfdppaaGreatDoor
open Go.RowKit
set_option linter.unusedVariables false
section
variable {P : Program} {o : Oper} {ρ : Slots} {m : Mem}
theorem r_makeI {T : TypeId} {fs : Array Field} {x : Operand} {dx : D} {v : Value} (hT : P.underlying T = some (.struct fs)) (ho : o.op = .makeInterface T x) (hx : oev ρ x = some dx) (hv : ∀ G w u, Rep G w dx u → u = v) : OpSound P o (Eff.val (.raw (.iface T v))) ρ m := by
  refine sound_val fun B G a w m' hs h _ => ?_
  have hp := hv G w _ (h x (by simp [ho, Op.operands]) _ hx)
  refine ⟨.iface T v, ?_, .raw _ rfl⟩
  simp [execOp, ho, Instr.makeInterface, Sem.run_bind, run_underlying hT, hp]
theorem r_makeMeth {name : String} {x : Operand} {u : Value} (ho : o.op = .makeFunc (.method name) #[x] #[]) (hx : oev ρ x = some (.raw u)) : OpSound P o (Eff.val (.raw (.func (.method name) #[u] #[]))) ρ m := by
  refine sound_val fun B G a w m' _ h _ => ?_
  have hp := h x (by simp [ho, Op.operands]) _ hx
  generalize hev : a.eval x = vx at hp
  cases hp
  exact ⟨.func (.method name) #[u] #[], by simp [execOp, ho, hev, Instr.makeFunc], .raw _ rfl⟩
theorem r_nilMeth {name : String} {x : Operand} {T : TypeId} {v : Value} (hn : ∀ w, (Go.nilAhead (P.types.size + Made.depth) T v name).run P w = .ok (some false) w) (ho : o.op = .nilCheck x) (hx : oev ρ x = some (.raw (.func (.method name) #[.iface T v] #[]))) : OpSound P o (Eff.val (.raw (.func (.method name) #[.iface T v] #[]))) ρ m := by
  refine sound_val fun B G a w m' _ h _ => ?_
  have hp := h x (by simp [ho, Op.operands]) _ hx
  generalize hev : a.eval x = vx at hp
  cases hp
  refine ⟨.func (.method name) #[.iface T v] #[], ?_, .raw _ rfl⟩
  simp [execOp, ho, hev, Sem.run_bind, run_program, hn]
theorem r_invoke {F : FuncId} [hf : HasFn P F] {x : Operand} {name : String} {T : TypeId} {v rv : Value} {dr : D} {args : Array Operand} {ts : Array TypeId} {ds ds' : List D} {d : D} (hp : Pur P F (dr :: ds') d) (hm : ∀ w, (Go.method (P.types.size + Made.depth) T v name).run P w = .ok (F, rv) w) (hrv : ∀ G w, Rep G w dr rv) (hdr : dr.fz = dr)
    (ho : o.op = .call { callee := .invoke x name, args := args, argTypes := ts }) (hx0 : oev ρ x = some (.raw (.iface T v))) (hx : oevs ρ args.toList = some ds) (hfz : D.fzs ds = ds') (hc : D.cls (dr :: ds') = true) (hd : d.cl = true) : OpSound P o (Eff.val d) ρ m := by
  obtain ⟨fn, h1, h2, h3⟩ := hf.fn
  refine pur_call hp hc hd fun B G a w m' hs h => ?_
  have hq := h x (by rw [ho]; simp [Op.operands, Call.operands]) _ hx0
  generalize hev : a.eval x = vx at hq
  cases hq
  refine ⟨#[rv] ++ args.map a.eval, ?_, ?_⟩
  · have e0 : (#[Value.iface T v] ++ args.map a.eval)[0]? = some (Value.iface T v) := by
      rw [Array.getElem?_append_left (by simp)]; rfl
    unfold execOp
    simp only [ho, resolve, hev, Sem.run_bind, Sem.run_pure, Result.andThen_ok, invoke, e0, callMethod, run_program, hm, callFunc, h1, h2, h3]
    have e3 : (args.map a.eval).extract 0 args.size = args.map a.eval := by
      have e4 : args.size = (args.map a.eval).size := by simp
      rw [e4]; exact Array.extract_size
    simp [e3]
  · have := oevs_reps (G := G) (w := w) (a := a) hx fun x hx' => h x (by rw [ho]; simp [Op.operands, Call.operands]; exact .inr (by simpa using hx'))
    rw [← hfz]
    have h4 := this.fzs
    have e : (args.toList.map a.eval).toArray = args.map a.eval := by simp [← Array.toList_map]
    have h5 := Reps.cons (hrv G w) h4
    have e2 : (rv :: args.toList.map a.eval).toArray = #[rv] ++ args.map a.eval := by rw [← e]; simp
    rw [e2] at h5; exact h5
end
section
variable {P : Program} {ρ : Slots} {m : Mem} {nx : Nat} {ops : Array Oper} {os : List Oper} {K : List Eff → Slots → Mem → Nat → Prop}
theorem k_makeI {t : Tmp} {T : TypeId} {fs : Array Field} {x : Operand} {dx : D} {v : Value} {V : TypeId} {pos : String} {af : Array Edge} {gd : Option (Nat × Bool)} (hg : gok ops ρ ⟨some t, .makeInterface T x, V, pos, af, gd⟩ = some true) (hT : P.underlying T = some (.struct fs)) (hx : oev ρ x = some dx) (hv : ∀ G w u, Rep G w dx u → u = v) (hh : R P ops os (fun Es => K (Eff.val (.raw (.iface T v)) :: Es)) ((t, .raw (.iface T v)) :: ρ) m nx) :
    R P ops (⟨some t, .makeInterface T x, V, pos, af, gd⟩ :: os) K ρ m nx := R_cons hg (r_makeI hT rfl hx hv) rfl hh
theorem k_makeMeth {t : Tmp} {name : String} {x : Operand} {u : Value} {V : TypeId} {pos : String} {af : Array Edge} {gd : Option (Nat × Bool)} (hg : gok ops ρ ⟨some t, .makeFunc (.method name) #[x] #[], V, pos, af, gd⟩ = some true) (hx : oev ρ x = some (.raw u)) (hh : R P ops os (fun Es => K (Eff.val (.raw (.func (.method name) #[u] #[])) :: Es)) ((t, .raw (.func (.method name) #[u] #[])) :: ρ) m nx) :
    R P ops (⟨some t, .makeFunc (.method name) #[x] #[], V, pos, af, gd⟩ :: os) K ρ m nx := R_cons hg (r_makeMeth rfl hx) rfl hh
theorem k_nilMeth {t : Tmp} {name : String} {x : Operand} {T : TypeId} {v : Value} {V : TypeId} {pos : String} {af : Array Edge} {gd : Option (Nat × Bool)} (hg : gok ops ρ ⟨some t, .nilCheck x, V, pos, af, gd⟩ = some true) (hn : ∀ w, (Go.nilAhead (P.types.size + Made.depth) T v name).run P w = .ok (some false) w) (hx : oev ρ x = some (.raw (.func (.method name) #[.iface T v] #[]))) (hh : R P ops os (fun Es => K (Eff.val (.raw (.func (.method name) #[.iface T v] #[])) :: Es)) ((t, .raw (.func (.method name) #[.iface T v] #[])) :: ρ) m nx) :
    R P ops (⟨some t, .nilCheck x, V, pos, af, gd⟩ :: os) K ρ m nx := R_cons hg (r_nilMeth hn rfl hx) rfl hh
theorem k_invoke {t : Tmp} {F : FuncId} [HasFn P F] {x : Operand} {name : String} {T : TypeId} {v rv : Value} {dr : D} {args : Array Operand} {ts : Array TypeId} {ds ds' : List D} {d : D} {V : TypeId} {pos : String} {af : Array Edge} {gd : Option (Nat × Bool)} (hg : gok ops ρ ⟨some t, .call { callee := .invoke x name, args := args, argTypes := ts }, V, pos, af, gd⟩ = some true)
    (hp : Pur P F (dr :: ds') d) (hm : ∀ w, (Go.method (P.types.size + Made.depth) T v name).run P w = .ok (F, rv) w) (hrv : ∀ G w, Rep G w dr rv) (hdr : dr.fz = dr) (hx0 : oev ρ x = some (.raw (.iface T v))) (hx : oevs ρ args.toList = some ds) (hfz : D.fzs ds = ds') (hc : D.cls (dr :: ds') = true) (hd : d.cl = true)
    (hh : R P ops os (fun Es => K (Eff.val d :: Es)) ((t, d) :: ρ) m nx) : R P ops (⟨some t, .call { callee := .invoke x name, args := args, argTypes := ts }, V, pos, af, gd⟩ :: os) K ρ m nx := R_cons hg (r_invoke hp hm hrv hdr rfl hx0 hx hfz hc hd) rfl hh
end
end Go.Proofs.YtcfefmbbbfdppaaGreatDoor
namespace Go.Proofs.YtcfefmbbbfdppaaGreatDoor
open Go.RowKit Go.Lib
set_option linter.unusedVariables false
section
variable {P : Program} {o : Oper} {ρ : Slots} {m : Mem}
theorem r_copyd {dT sT E : TypeId} {ty : Ty} [HasSl P dT E] [HasTy P E ty] {x y : Operand} {l off n k n2 : Nat} {tk : Tok} {T' : TypeId} {cs cs' cs2 : List D} {z : List UInt8} (hsz : ty.size = 1) (ho : o.op = .call { callee := .builtin .copy, args := #[x, y], argTypes := #[dT, sT] }) (hx : oev ρ x = some (.ms l off n)) (hy : oev ρ y = some (.slice tk n2 cs2)) (hm : mget m l = some (.var T' cs)) (hk : Nat.min n2 n = k) (hz : cs2.take k = bs z) (hzl : z.length = k) (hsp : splice off (bs z) cs = some cs') : OpSound P o ⟨.int .i64 k, [], [(l, some (.var T' cs'))], []⟩ ρ m := by
  refine copy_core hsz ho hx hm hzl hsp fun G w a h => ?_
  have hq := h y (by simp [ho, Op.operands, Call.operands]) _ hy
  generalize a.eval y = vy at hq
  cases hq with
  | nil tk =>
    have hk0 : k = 0 := by rw [← hk]; exact Nat.eq_zero_of_le_zero (Nat.min_le_left _ _)
    subst hk0
    have : z = [] := List.length_eq_zero_iff.1 hzl
    subst this
    exact ⟨0, rfl, hk, by simp [Builtin.firstCells]⟩
  | slice tk n cs b o' cap vs hl' h1 hh hhw hc hb' hn ht' =>
    refine ⟨n2, rfl, hk, ?_⟩
    have hr := run_firstCells_some (P := P) w 1 k ⟨b, o', none⟩ n2 cap (z.map fun b => Value.int .u8 b.toNat) (by simp [hzl]) (fun j v hj => by
      rw [List.getElem?_map] at hj
      obtain ⟨c, hcj, rfl⟩ := Option.map_eq_some_iff.1 hj
      have hd : (cs2.take k)[j]? = some (.int .u8 (c.toNat : Int)) := by rw [hz]; exact bs_get z j _ hcj
      have hjk : j < k := by rw [← hzl]; exact (List.getElem?_eq_some_iff.1 hcj).1
      rw [List.getElem?_take, if_pos hjk] at hd
      have hlt := (List.getElem?_eq_some_iff.1 hd).1
      rw [add_off, hc j hlt]
      have hvj : vs[j]? = some (vs[j]'(by omega)) := Array.getElem?_eq_getElem _
      have hq := hh j _ _ hd hvj
      rw [hvj]
      generalize vs[j]'(by omega) = u at hq
      cases hq; rfl)
    rw [hr]
end
section
variable {P : Program} {ρ : Slots} {m : Mem} {nx : Nat} {ops : Array Oper} {os : List Oper} {K : List Eff → Slots → Mem → Nat → Prop}
theorem k_copyd {t : Tmp} {dT sT E : TypeId} {ty : Ty} [HasSl P dT E] [HasTy P E ty] {x y : Operand} {l off n k n2 : Nat} {tk : Tok} {T' : TypeId} {cs cs' cs2 : List D} {z : List UInt8} {V : TypeId} {pos : String} {af : Array Edge} {gd : Option (Nat × Bool)} (hg : gok ops ρ ⟨some t, .call { callee := .builtin .copy, args := #[x, y], argTypes := #[dT, sT] }, V, pos, af, gd⟩ = some true) (hsz : ty.size = 1) (hx : oev ρ x = some (.ms l off n)) (hy : oev ρ y = some (.slice tk n2 cs2)) (hm : mget m l = some (.var T' cs)) (hk : Nat.min n2 n = k) (hz : cs2.take k = bs z) (hzl : z.length = k) (hsp : splice off (bs z) cs = some cs')
    (hh : R P ops os (fun Es => K (⟨.int .i64 k, [], [(l, some (.var T' cs'))], []⟩ :: Es)) ((t, .int .i64 k) :: ρ) ((l, some (.var T' cs')) :: m) nx) : R P ops (⟨some t, .call { callee := .builtin .copy, args := #[x, y], argTypes := #[dT, sT] }, V, pos, af, gd⟩ :: os) K ρ m nx := R_cons hg (r_copyd hsz rfl hx hy hm hk hz hzl hsp) rfl hh
end
end Go.Proofs.YtcfefmbbbfdppaaGreatDoor
