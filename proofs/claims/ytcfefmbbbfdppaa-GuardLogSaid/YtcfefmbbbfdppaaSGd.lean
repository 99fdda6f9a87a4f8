/- Closed data under other names. Of any program. No conditions. -/
import Derived.Test.YtcfefmbbbfdppaaSDMore
import Derived.Test.YtcfefmbbbfdppaaSBytes
import Derived.Lib.ConvBytes
import Derived.Laws.IdiomStrings
import Derived.Test.YtcfefmbbbfdppaaSDInst
import Derived.Test.YtcfefmbbbfdppaaSDCode
import Derived.Test.YtcfefmbbbfdppaaSDFun
import Derived.Laws.MakeOwn
namespace Go.Proofs.Ytcfefmbbbfdppaa
open Go.RowKit
set_option linter.unusedVariables false
section
variable {P : Program} {o : Oper} {ρ : Slots} {m : Mem}
theorem r_makeI {T : TypeId} {fs : Array Field} {x : Operand} {dx : D} {v : Value} (hT : P.underlying T = some (.struct fs)) (ho : o.op = .makeInterface T x) (hx : oev ρ x = some dx) (hv : ∀ G w u, Rep G w dx u → u = v) : OpSound P o (Eff.val (.raw (.iface T v))) ρ m := by
  refine sound_val fun B G a w m' hs h _ => ?_
  have hp := hv G w _ (h x (by simp [ho, Op.operands]) _ hx)
  refine ⟨.iface T v, ?_, .raw _ rfl⟩
  simp [execOp, ho, Instr.makeInterface, Sem.run_bind, run_underlying hT, hp]
theorem r_makeMeth {name : String} {x : Operand} {u : Value} (ho : o.op = .makeFunc (.method name) #[x] #[]) (hx : oev ρ x = some (.raw u)) : OpSound P o (Eff.val (.raw (.func (.method name) #[u] #[]))) ρ m := by
  refine sound_val fun B G a w m' _ h _ => ?_
  have hp := h x (by simp [ho, Op.operands]) _ hx
  generalize hev : a.eval x = vx at hp
  cases hp
  exact ⟨.func (.method name) #[u] #[], by simp [execOp, ho, hev, Instr.makeFunc], .raw _ rfl⟩
theorem r_nilMeth {name : String} {x : Operand} {T : TypeId} {v : Value} (hn : ∀ w, (Go.nilAhead (P.types.size + Made.depth) T v name).run P w = .ok (some false) w) (ho : o.op = .nilCheck x) (hx : oev ρ x = some (.raw (.func (.method name) #[.iface T v] #[]))) : OpSound P o (Eff.val (.raw (.func (.method name) #[.iface T v] #[]))) ρ m := by
  refine sound_val fun B G a w m' _ h _ => ?_
  have hp := h x (by simp [ho, Op.operands]) _ hx
  generalize hev : a.eval x = vx at hp
  cases hp
  refine ⟨.func (.method name) #[.iface T v] #[], ?_, .raw _ rfl⟩
  simp [execOp, ho, hev, Sem.run_bind, run_program, hn]
theorem r_invoke {F : FuncId} [hf : HasFn P F] {x : Operand} {name : String} {T : TypeId} {v rv : Value} {dr : D} {args : Array Operand} {ts : Array TypeId} {ds ds' : List D} {d : D} (hp : Pur P F (dr :: ds') d) (hm : ∀ w, (Go.method (P.types.size + Made.depth) T v name).run P w = .ok (F, rv) w) (hrv : ∀ G w, Rep G w dr rv) (hdr : dr.fz = dr)
    (ho : o.op = .call { callee := .invoke x name, args := args, argTypes := ts }) (hx0 : oev ρ x = some (.raw (.iface T v))) (hx : oevs ρ args.toList = some ds) (hfz : D.fzs ds = ds') (hc : D.cls (dr :: ds') = true) (hd : d.cl = true) : OpSound P o (Eff.val d) ρ m := by
  obtain ⟨fn, h1, h2, h3⟩ := hf.fn
  refine pur_call hp hc hd fun B G a w m' hs h => ?_
  have hq := h x (by rw [ho]; simp [Op.operands, Call.operands]) _ hx0
  generalize hev : a.eval x = vx at hq
  cases hq
  refine ⟨#[rv] ++ args.map a.eval, ?_, ?_⟩
  · have e0 : (#[Value.iface T v] ++ args.map a.eval)[0]? = some (Value.iface T v) := by
      rw [Array.getElem?_append_left (by simp)]; rfl
    unfold execOp
    simp only [ho, resolve, hev, Sem.run_bind, Sem.run_pure, Result.andThen_ok, invoke, e0, callMethod, run_program, hm, callFunc, h1, h2, h3]
    have e3 : (args.map a.eval).extract 0 args.size = args.map a.eval := by
      have e4 : args.size = (args.map a.eval).size := by simp
      rw [e4]; exact Array.extract_size
    simp [e3]
  · have := oevs_reps (G := G) (w := w) (a := a) hx fun x hx' => h x (by rw [ho]; simp [Op.operands, Call.operands]; exact .inr (by simpa using hx'))
    rw [← hfz]
    have h4 := this.fzs
    have e : (args.toList.map a.eval).toArray = args.map a.eval := by simp [← Array.toList_map]
    have h5 := Reps.cons (hrv G w) h4
    have e2 : (rv :: args.toList.map a.eval).toArray = #[rv] ++ args.map a.eval := by rw [← e]; simp
    rw [e2] at h5; exact h5
end
section
variable {P : Program} {ρ : Slots} {m : Mem} {nx : Nat} {ops : Array Oper} {os : List Oper} {K : List Eff → Slots → Mem → Nat → Prop}
theorem k_makeI {t : Tmp} {T : TypeId} {fs : Array Field} {x : Operand} {dx : D} {v : Value} {V : TypeId} {pos : String} {af : Array Edge} {gd : Option (Nat × Bool)} (hg : gok ops ρ ⟨some t, .makeInterface T x, V, pos, af, gd⟩ = some true) (hT : P.underlying T = some (.struct fs)) (hx : oev ρ x = some dx) (hv : ∀ G w u, Rep G w dx u → u = v) (hh : R P ops os (fun Es => K (Eff.val (.raw (.iface T v)) :: Es)) ((t, .raw (.iface T v)) :: ρ) m nx) :
    R P ops (⟨some t, .makeInterface T x, V, pos, af, gd⟩ :: os) K ρ m nx := R_cons hg (r_makeI hT rfl hx hv) rfl hh
theorem k_makeMeth {t : Tmp} {name : String} {x : Operand} {u : Value} {V : TypeId} {pos : String} {af : Array Edge} {gd : Option (Nat × Bool)} (hg : gok ops ρ ⟨some t, .makeFunc (.method name) #[x] #[], V, pos, af, gd⟩ = some true) (hx : oev ρ x = some (.raw u)) (hh : R P ops os (fun Es => K (Eff.val (.raw (.func (.method name) #[u] #[])) :: Es)) ((t, .raw (.func (.method name) #[u] #[])) :: ρ) m nx) :
    R P ops (⟨some t, .makeFunc (.method name) #[x] #[], V, pos, af, gd⟩ :: os) K ρ m nx := R_cons hg (r_makeMeth rfl hx) rfl hh
theorem k_nilMeth {t : Tmp} {name : String} {x : Operand} {T : TypeId} {v : Value} {V : TypeId} {pos : String} {af : Array Edge} {gd : Option (Nat × Bool)} (hg : gok ops ρ ⟨some t, .nilCheck x, V, pos, af, gd⟩ = some true) (hn : ∀ w, (Go.nilAhead (P.types.size + Made.depth) T v name).run P w = .ok (some false) w) (hx : oev ρ x = some (.raw (.func (.method name) #[.iface T v] #[]))) (hh : R P ops os (fun Es => K (Eff.val (.raw (.func (.method name) #[.iface T v] #[])) :: Es)) ((t, .raw (.func (.method name) #[.iface T v] #[])) :: ρ) m nx) :
    R P ops (⟨some t, .nilCheck x, V, pos, af, gd⟩ :: os) K ρ m nx := R_cons hg (r_nilMeth hn rfl hx) rfl hh
theorem k_invoke {t : Tmp} {F : FuncId} [HasFn P F] {x : Operand} {name : String} {T : TypeId} {v rv : Value} {dr : D} {args : Array Operand} {ts : Array TypeId} {ds ds' : List D} {d : D} {V : TypeId} {pos : String} {af : Array Edge} {gd : Option (Nat × Bool)} (hg : gok ops ρ ⟨some t, .call { callee := .invoke x name, args := args, argTypes := ts }, V, pos, af, gd⟩ = some true)
    (hp : Pur P F (dr :: ds') d) (hm : ∀ w, (Go.method (P.types.size + Made.depth) T v name).run P w = .ok (F, rv) w) (hrv : ∀ G w, Rep G w dr rv) (hdr : dr.fz = dr) (hx0 : oev ρ x = some (.raw (.iface T v))) (hx : oevs ρ args.toList = some ds) (hfz : D.fzs ds = ds') (hc : D.cls (dr :: ds') = true) (hd : d.cl = true)
    (hh : R P ops os (fun Es => K (Eff.val d :: Es)) ((t, d) :: ρ) m nx) : R P ops (⟨some t, .call { callee := .invoke x name, args := args, argTypes := ts }, V, pos, af, gd⟩ :: os) K ρ m nx := R_cons hg (r_invoke hp hm hrv hdr rfl hx0 hx hfz hc hd) rfl hh
end
end Go.Proofs.Ytcfefmbbbfdppaa
namespace Go.Proofs.Ytcfefmbbbfdppaa
open Go.RowKit Go.Lib
set_option linter.unusedVariables false
section
variable {P : Program} {o : Oper} {ρ : Slots} {m : Mem}
theorem sound_mk {d : D} (hd : d.cl = true)
    (h : ∀ (B : Base) (G : Gh) (a : Act) (w : World) (m' : Mem), Sim B G m' w → (∀ x ∈ o.op.operands, ∀ d, oev ρ x = some d → Rep G w d (a.eval x)) →
      ∃ v w' hw', (execOp a.eval o).run P w = .ok (.value v) w' ∧ New w w' ∧ HwOk hw' w' ∧ (∀ b, b < w.heap.size → hw' b = G.hw b) ∧ Rep (bare hw') w' d v) : OpSound P o (Eff.val d) ρ m := by
  intro B G a w m' K Q hs hx ht hn hK
  obtain ⟨v, w', hw', hv, hN, hok, hold, hrv⟩ := h B G a w m' hs hx
  unfold Oper.wp
  rw [hv, Oper.upon_value]
  have hlt : ∀ b, 0 < G.hw b → b < w.heap.size := fun b hb => by
    obtain ⟨_, _, _, hv, _⟩ := hs.data b hb
    exact (Array.getElem?_eq_some_iff.1 hv).1
  have hle : ∀ b, G.hw b ≤ hw' b := fun b => by
    rcases Nat.eq_zero_or_pos (G.hw b) with h0 | h0
    · omega
    · rw [hold b (hlt b h0)]; exact Nat.le_refl _
  have hx0 := Ext.grow hs.data hN
  let G2 : Gh := { G with hw := hw', al := fun k => G.al k && (G.nl k || decide (G.g k < w.heap.size)) }
  have hX : Ext G w G2 w' := by
    refine ⟨fun l hl => ⟨hl, rfl, fun ha => ?_, rfl, rfl⟩, hle, hx0.cell, hx0.size⟩
    simp only [G2, Bool.and_eq_true, Bool.or_eq_true, decide_eq_true_iff] at ha
    exact ⟨ha.1, fun hn => hold _ (ha.2.resolve_left (by rw [hn]; simp))⟩
  refine hK v w' _ hX ?_ (hrv.closed G2 rfl hd) fun l hl => .inl hl
  have hg := hs.grow hN
  show Sim B G2 m' w'
  refine ⟨hg.new, hs.ext.trans hX, fun b hb hT => ?_, fun l T cs hm => ?_, fun l E s hm => ?_, fun l K cs hm => ?_, hg.inj, hok⟩
  · show hw' b = B.G.hw b
    rw [hold b (Nat.lt_of_lt_of_le hb hs.new.size)]; exact hs.old b hb hT
  · obtain ⟨a1, a2, a3, a0, vs', a4, a5, a6⟩ := hs.var l T cs hm
    exact ⟨a1, a2, (hold _ (hs.vlt hm)).trans a3, a0, vs', (hN.block _ (hs.vlt hm)).trans a4, a5.mono hX, a6⟩
  · obtain ⟨a1, a2, a3⟩ := hs.tok l E s hm
    refine ⟨a1, ?_, fun hn => ?_⟩
    · simp only [G2, a2, Bool.true_and, Bool.or_eq_true, decide_eq_true_iff]
      cases hnl : G.nl l with
      | true => exact .inl rfl
      | false => exact .inr (hs.lt (by rw [hm]; rfl) hnl)
    · obtain ⟨c1, c2, vs', c3, c4, c5⟩ := a3 hn
      have hlt' := hs.lt (l := l) (by rw [hm]; rfl) hn
      exact ⟨c1, c2, vs', (hN.block _ hlt').trans c3, by show hw' (G.g l) ≤ _; rw [hold _ hlt']; exact c4, c5⟩
  · obtain ⟨a1, a2, a3⟩ := hs.obj l K cs hm
    refine ⟨a1, a2, fun hn => ?_⟩
    obtain ⟨c1, c2, o, c3, c4⟩ := a3 hn
    have hlt' := hs.lt (l := l) (by rw [hm]; rfl) hn
    exact ⟨c1, by show hw' (G.g l) = 0; rw [hold _ hlt']; exact c2, o, (hN.block _ hlt').trans c3, c4.mono hX⟩
theorem bs_get (l : List UInt8) (i : Nat) (x : UInt8) (h : l[i]? = some x) : (bs l)[i]? = some (.int .u8 (x.toNat : Int)) := by simp [bs, h]
theorem Rep.cell8 {G : Gh} {w : World} {tk : Tok} {n : Nat} {l : List UInt8} {v : Value} (h : Rep G w (.slice tk n (bs l)) v) (hn : n = l.length) : (v = .slice none 0 0 ∧ l = []) ∨ ∃ a cap, v = .slice (some a) l.length cap ∧ ∀ j (hj : j < l.length), w.cell? (a.add j) = some (.int .u8 (l[j].toNat : Int)) := by
  generalize hcs : bs l = cs at h
  cases h with
  | nil tk => exact .inl ⟨rfl, by cases l with | nil => rfl | cons a l => simp [bs] at hcs⟩
  | slice tk n cs b o cap vs hl h1 hh hhw hc hb hn' htk =>
    subst hcs; subst hn
    refine .inr ⟨⟨b, o, none⟩, cap, rfl, fun j hj => ?_⟩
    have hd := bs_get l j _ (List.getElem?_eq_getElem hj)
    have hv : vs[j]? = some (vs[j]'(by rw [hl, bs_len]; exact hj)) := Array.getElem?_eq_getElem _
    have hr := hh j _ _ hd hv
    rw [add_off, hc j (by rw [bs_len]; exact hj), hv]
    generalize vs[j]'(by rw [hl, bs_len]; exact hj) = u at hr
    cases hr; rfl
theorem r_b2s {S T E : TypeId} [ha : HasSl P S E] {x : Operand} {tk : Tok} {n : Nat} {l : List UInt8} (hT : P.underlying T = some .string) (hE : P.underlying E = some (.int .u8)) (ho : o.op = .convert S T x) (hx : oev ρ x = some (.slice tk n (bs l))) (hn : n = l.length) : OpSound P o (Eff.val (.str ⟨l.toArray⟩)) ρ m := by
  refine sound_val fun B G a w m' hs h _ => ?_
  have hp := (h x (by simp [ho, Op.operands]) _ hx).cell8 hn
  generalize hev : a.eval x = vx at hp
  refine ⟨.string ⟨l.toArray⟩, ?_, .str _⟩
  rcases hp with ⟨rfl, rfl⟩ | ⟨ad, cap, rfl, hc⟩
  · have hrun : (convert S T (.slice none 0 0)).run P w = .ok (.string ⟨#[]⟩) w := by
      simp [convert, Sem.run_bind, run_underlying ha.sl, run_underlying hT, run_underlying hE, Conv.bytesToString]
      rfl
    simp only [execOp, ho, hev, Sem.run_bind, hrun, Result.andThen_ok, Sem.run_pure]
  · have hrun := run_convert_bytes_back (P := P) w S T E ad cap l ha.sl hE hT hc
    simp only [execOp, ho, hev, Sem.run_bind, hrun, Result.andThen_ok, Sem.run_pure]
theorem r_strop {op : BinOp} {T U : TypeId} {x y : Operand} {s t : ByteArray} {c : Bool} (ho : o.op = .binOp op T x y U) (hx : oev ρ x = some (.str s)) (hy : oev ρ y = some (.str t)) (hop : op ≠ .shl ∧ op ≠ .shr) (h : ∀ w, (Op.stringOp op s t).run P w = .ok (.bool c) w) : OpSound P o (Eff.val (.bool c)) ρ m :=
  sound_bin ho hx hy fun G w vx vy h1 h2 => by
    cases h1; cases h2
    have hb : ∀ w, (binOp op T (.string s) (.string t)).run P w = .ok (.bool c) w := fun w => by
      rw [← h w]; cases op <;> first | rfl | simp at hop
    exact ⟨.bool c, by simp [eqGuard, hb], .bool c⟩
theorem r_eqs {T U : TypeId} {x y : Operand} {s t : ByteArray} {c : Bool} (ho : o.op = .binOp .eql T x y U) (hx : oev ρ x = some (.str s)) (hy : oev ρ y = some (.str t)) (h : (s.toList == t.toList) = c) : OpSound P o (Eff.val (.bool c)) ρ m :=
  r_strop ho hx hy (by decide) fun w => by rw [← h]; rfl
end
section
variable {P : Program} {ρ : Slots} {m : Mem} {nx : Nat} {ops : Array Oper} {os : List Oper} {K : List Eff → Slots → Mem → Nat → Prop}
theorem k_b2s {t : Tmp} {S T E : TypeId} [HasSl P S E] {x : Operand} {tk : Tok} {n : Nat} {l : List UInt8} {V : TypeId} {pos : String} {af : Array Edge} {gd : Option (Nat × Bool)} (hg : gok ops ρ ⟨some t, .convert S T x, V, pos, af, gd⟩ = some true) (hT : P.underlying T = some .string) (hE : P.underlying E = some (.int .u8)) (hx : oev ρ x = some (.slice tk n (bs l))) (hn : n = l.length) (hh : R P ops os (fun Es => K (Eff.val (.str ⟨l.toArray⟩) :: Es)) ((t, .str ⟨l.toArray⟩) :: ρ) m nx) :
    R P ops (⟨some t, .convert S T x, V, pos, af, gd⟩ :: os) K ρ m nx := R_cons hg (r_b2s hT hE rfl hx hn) rfl hh
theorem k_eqs {t : Tmp} {T U : TypeId} {x y : Operand} {s s' : ByteArray} {c : Bool} {V : TypeId} {pos : String} {af : Array Edge} {gd : Option (Nat × Bool)} (hg : gok ops ρ ⟨some t, .binOp .eql T x y U, V, pos, af, gd⟩ = some true) (hx : oev ρ x = some (.str s)) (hy : oev ρ y = some (.str s')) (h : (s.toList == s'.toList) = c) (hh : R P ops os (fun Es => K (Eff.val (.bool c) :: Es)) ((t, .bool c) :: ρ) m nx) :
    R P ops (⟨some t, .binOp .eql T x y U, V, pos, af, gd⟩ :: os) K ρ m nx := R_cons hg (r_eqs rfl hx hy h) rfl hh
end
end Go.Proofs.Ytcfefmbbbfdppaa
namespace Go.Proofs.Ytcfefmbbbfdppaa
open Go.RowKit Go.Lib
set_option linter.unusedVariables false
def nm (l : List UInt8) : Nat := l.foldl (fun a c => a * 256 + c.toNat) 0
def toB : Nat → Nat → List UInt8
  | 0, _ => []
  | k + 1, n => toB k (n / 256) ++ [UInt8.ofNat n]
theorem toB_len : ∀ (k n : Nat), (toB k n).length = k
  | 0, _ => rfl
  | k + 1, n => by simp [toB, toB_len k]
theorem nm_snoc (l : List UInt8) (c : UInt8) : nm (l ++ [c]) = nm l * 256 + c.toNat := by simp [nm, List.foldl_append]
theorem nm_toB : ∀ (k n : Nat), nm (toB k n) = n % 256 ^ k
  | 0, n => by simp [toB, nm, Nat.mod_one]
  | k + 1, n => by
    have e : (256 : Nat) ^ (k + 1) = 256 * 256 ^ k := by rw [Nat.pow_succ, Nat.mul_comm]
    rw [toB, nm_snoc, nm_toB k, UInt8.toNat_ofNat', e, Nat.mod_mul]
    omega
theorem toB_get : ∀ (k n j : Nat), j < k → (toB k n)[j]? = some (UInt8.ofNat (n / 256 ^ (k - 1 - j)))
  | k + 1, n, j, h => by
    rw [toB]
    rcases Nat.lt_or_ge j k with h1 | h1
    · rw [List.getElem?_append_left (by rw [toB_len]; exact h1), toB_get k _ j h1, Nat.div_div_eq_div_mul]
      congr 3
      rw [← Nat.pow_succ']
      congr 1; omega
    · have : j = k := by omega
      subst this
      rw [List.getElem?_append_right (by rw [toB_len]; exact Nat.le_refl _), toB_len]
      simp
def b32 (n : Nat) : List UInt8 := toB 32 n
theorem b32_len (n : Nat) : (b32 n).length = 32 := toB_len 32 n
theorem nm_b32 (n : Nat) (h : n < M256) : nm (b32 n) = n := by
  unfold b32
  rw [nm_toB, Nat.mod_eq_of_lt (by have : (256 : Nat) ^ 32 = M256 := by decide
                                   omega)]
def xb (n i : Nat) : Int := ((n / 256 ^ i % 256 : Nat) : Int)
theorem b32_bs (n : Nat) : bs (b32 n) = (List.range 32).map fun j => D.int .u8 (xb n (31 - j)) := by
  apply List.ext_getElem?
  intro j
  rcases Nat.lt_or_ge j 32 with h | h
  · unfold b32
    rw [bs_get _ _ _ (toB_get 32 n j h), List.getElem?_map, List.getElem?_range h]
    show some (D.int .u8 (((UInt8.ofNat (n / 256 ^ (32 - 1 - j))).toNat : Nat) : Int)) = some _
    rw [UInt8.toNat_ofNat']; rfl
  · rw [List.getElem?_eq_none (by rw [bs_len, b32_len]; exact h), List.getElem?_eq_none (by simp; exact h)]
theorem lim_byte (n q r : Nat) (hr : r < 8) : IntKind.u8.wrap ((lim n q).fdiv (2 ^ (8 * r))) = xb n (8 * q + r) := by
  unfold lim xb
  rw [Int.fdiv_eq_ediv_of_nonneg _ (by exact Int.le_of_lt (Int.pow_pos (by decide)))]
  have e1 : ((2 : Int) ^ (8 * r)) = ((256 ^ r : Nat) : Int) := by
    rw [Int.natCast_pow, Int.pow_mul]; rfl
  rw [e1, ← Int.natCast_ediv, IntKind.wrap_u8]
  have e2 : n / 18446744073709551616 ^ q % 18446744073709551616 / 256 ^ r % 256 = n / 256 ^ (8 * q + r) % 256 := by
    have p1 : (18446744073709551616 : Nat) = 256 ^ 8 := by decide
    have p2 : (256 : Nat) ^ 8 = 256 ^ r * 256 ^ (8 - r) := by rw [← Nat.pow_add]; congr 1; omega
    rw [p1, ← Nat.pow_mul]
    conv => lhs; rw [show (256 : Nat) ^ 8 = 256 ^ r * 256 ^ (8 - r) from p2]
    rw [Nat.mod_mul_right_div_self, Nat.div_div_eq_div_mul, ← Nat.pow_add]
    rw [Nat.mod_mod_of_dvd]
    exact Nat.dvd_trans (by decide : 256 ∣ 256 ^ 1) (Nat.pow_dvd_pow 256 (by omega))
  omega
end Go.Proofs.Ytcfefmbbbfdppaa
namespace Go.Proofs.Ytcfefmbbbfdppaa
open Go.RowKit Go.Lib
set_option linter.unusedVariables false
theorem ba_list (s : ByteArray) : s.toList = s.data.toList := by rw [ByteArray.toList_eq]
theorem ba_mk (l : List UInt8) : (⟨l.toArray⟩ : ByteArray).toList = l := ba_list _
end Go.Proofs.Ytcfefmbbbfdppaa
namespace Go.Proofs.Ytcfefmbbbfdppaa
open Go.RowKit Go.Lib
set_option linter.unusedVariables false
section
variable {P : Program} {o : Oper} {ρ : Slots} {m : Mem}
theorem copy_core {dT sT E : TypeId} {ty : Ty} [ha : HasSl P dT E] [ht : HasTy P E ty] {x y : Operand} {l off n k : Nat} {T' : TypeId} {cs cs' : List D} {z : List UInt8} (hsz : ty.size = 1) (ho : o.op = .call { callee := .builtin .copy, args := #[x, y], argTypes := #[dT, sT] }) (hx : oev ρ x = some (.ms l off n)) (hm : mget m l = some (.var T' cs)) (hz : z.length = k) (hsp : splice off (bs z) cs = some cs')
    (hsrc : ∀ (G : Gh) (w : World) (a : Act), (∀ x ∈ o.op.operands, ∀ d, oev ρ x = some d → Rep G w d (a.eval x)) → ∃ sl, (Builtin.lenOf (a.eval y)).run P w = .ok sl w ∧ Nat.min sl n = k ∧ (Builtin.firstCells 1 k (a.eval y)).run P w = .ok ((z.map fun b => Value.int .u8 b.toNat).toArray) w) : OpSound P o ⟨.int .i64 k, [], [(l, some (.var T' cs'))], []⟩ ρ m := by
  intro B G a w m' K Q hs h hag hn hK
  have hml : mget m' l = some (.var T' cs) := (hag l (by unfold Eff.touch Eff.writes; simp)).trans hm
  obtain ⟨vs, hv, hr, h1'⟩ := hs.at_ hml
  have hp := h x (by simp [ho, Op.operands, Call.operands]) _ hx
  generalize hev : a.eval x = vx at hp
  cases hp with
  | ms _ _ _ cap hk hn' =>
    obtain ⟨sl, e1, e2, e3⟩ := hsrc G w a h
    have hc1 : Reps G w (bs z) (z.map fun b => Value.int .u8 b.toNat).toArray := by
      refine ⟨by simp [bs_len], fun i d v hd hv => ?_⟩
      unfold bs at hd
      rw [List.getElem?_map] at hd
      obtain ⟨b, hb, rfl⟩ := Option.map_eq_some_iff.1 hd
      simp [hb] at hv
      subst hv
      exact .int _ _
    have hc2 : ∀ d ∈ bs z, d.one = true := fun d hd => by
      obtain ⟨b, _, rfl⟩ := List.mem_map.1 hd; rfl
    obtain ⟨hle, hr', h1''⟩ := hr.splice hc1 h1' hc2 hsp
    obtain ⟨i, hi, hsi⟩ := Option.map_eq_some_iff.1 ht.size
    rw [hsz] at hsi
    have hone : ∀ v ∈ (z.map fun b => Value.int .u8 b.toNat), v.oneCell' = true := fun v hv => by
      obtain ⟨b, _, rfl⟩ := List.mem_map.1 hv; rfl
    have hst := run_storeCells_at (P := P) (G.g l) off T' (z.map fun b => Value.int .u8 b.toNat) 0 vs w hv (by simp at hle; simp; omega) hone
    simp only [Nat.add_zero, List.length_map] at hst
    have hrun : (execOp a.eval o).run P w = .ok (.value (.int .i64 k)) (w.setRow (G.g l) (vs.toList.take off ++ (z.map fun b => Value.int .u8 b.toNat) ++ vs.toList.drop (off + z.length)).toArray) := by
      unfold execOp
      simp only [ho, resolve, invoke, builtin, Sem.run_bind, Sem.run_pure, Result.andThen_ok, List.map_toArray, List.map_cons, List.map_nil, hev]
      simp [Builtin.copy_, Sem.run_bind, run_underlying ha.sl, e1, e2, sizeOf, typeInfo, hi, hsi, e3, hst, goInt, Result.andThen]
    unfold Oper.wp
    rw [hrun, Oper.upon_value]
    have hg : w.grownBy (w.setRow (G.g l) (vs.toList.take off ++ (z.map fun b => Value.int .u8 b.toNat) ++ vs.toList.drop (off + z.length)).toArray) (some (G.g l)) := by
      refine ⟨rfl, rfl, rfl, by simp [World.setRow], fun i hi hne => ?_⟩
      have : ¬ G.g l = i := fun h => hne (by rw [h])
      simp [World.setRow, Array.getElem?_modify, this]
    have hr2 : Reps G w cs' (vs.toList.take off ++ (z.map fun b => Value.int .u8 b.toNat) ++ vs.toList.drop (off + z.length)).toArray := by
      have := hr'; simpa using this
    obtain ⟨hx', hs'⟩ := hs.write hml hg (setRow_heap w _ vs _ T' (0, 0) hv) hr2 h1''
    exact hK _ _ G hx' hs' (.int _ _) fun l hl => .inl hl
end
section
variable {P : Program} {ρ : Slots} {m : Mem} {nx : Nat} {ops : Array Oper} {os : List Oper} {K : List Eff → Slots → Mem → Nat → Prop}
end
end Go.Proofs.Ytcfefmbbbfdppaa
namespace Go.Proofs.Ytcfefmbbbfdppaa
open Go.RowKit Go.Lib
set_option linter.unusedVariables false
theorem b_len {z : List UInt8} (h : z.length = 32) : (D.agg (bs z)).cells.length = 32 := by show (bs z).length = 32; rw [bs_len, h]
theorem b_fits (z : List UInt8) : (D.agg (bs z)).fits = true := rfl
theorem b_put {z : List UInt8} (h : z.length = 32) (cs : List D) (hc : cs.length = 32) : splice 0 (bs z) cs = some (bs z) := by
  unfold splice
  rw [Nat.ble_eq_true_of_le (by rw [bs_len, h, hc]; exact Nat.le_refl _), cond_true, Nat.zero_add, List.drop_of_length_le (by rw [bs_len, h, hc]; exact Nat.le_refl _)]
  simp
theorem b_cut {z : List UInt8} (h : z.length = 32) (ze : List D) : cut ⟨true, 32, ze⟩ 0 (bs z) = some (.agg (bs z)) := by
  unfold cut
  simp only [cond_true, Nat.zero_add, List.drop_zero]
  rw [Nat.ble_eq_true_of_le (by rw [bs_len, h]; exact Nat.le_refl _), cond_true, List.take_of_length_le (by rw [bs_len, h]; exact Nat.le_refl _)]
theorem bs_fzs : ∀ (l : List UInt8), D.fzs (bs l) = bs l
  | [] => rfl
  | a :: l => by
    show (D.int .u8 (a.toNat : Int)).fz :: D.fzs (bs l) = _
    rw [bs_fzs l]; rfl
theorem b_fz (z : List UInt8) : (D.agg (bs z)).fz = .agg (bs z) := by
  show D.agg (D.fzs (bs z)) = _
  rw [bs_fzs]
theorem b_fz1 (z : List UInt8) : D.fzs [D.agg (bs z)] = [D.agg (bs z)] := by
  show [(D.agg (bs z)).fz] = _
  rw [b_fz]
theorem b_cl1 (z : List UInt8) : D.cls [D.agg (bs z)] = true := by
  show (D.cls (bs z) && true) = true
  rw [bs_cl]; rfl
end Go.Proofs.Ytcfefmbbbfdppaa
namespace Go.Proofs.Ytcfefmbbbfdppaa
open Go.RowKit
set_option linter.unusedVariables false
section
variable {P : Program} {B : Base} {N : Nat} {Q : Post} {ρ : Slots} {m : Mem} {nx : Nat}
theorem W_join {x y : Code} (J : Slots → Mem → Nat → Prop) (h : W P B N x (thenD (fun ρ' m' nx' => ∃ ρ1 m1 nx1, Weak B N ρ' m' nx' ρ1 m1 nx1 ∧ J ρ1 m1 nx1) Q) ρ m nx) (hj : ∀ ρ m nx, J ρ m nx → W P B N y Q ρ m nx) : W P B N (.seq x y) Q ρ m nx := by
  refine W_seq (W_mono h fun e ρ' m' nx' hq => ?_)
  cases e with
  | normal =>
    obtain ⟨ρ1, m1, nx1, hw, hJ⟩ := hq
    exact W_of_weak hw (hj _ _ _ hJ)
  | _ => exact hq
end
end Go.Proofs.Ytcfefmbbbfdppaa
namespace Go.Proofs.Ytcfefmbbbfdppaa
open Go.RowKit Go.Lib
set_option linter.unusedVariables false
section
variable {P : Program} {o : Oper} {ρ : Slots} {m : Mem}
theorem r_copyd {dT sT E : TypeId} {ty : Ty} [HasSl P dT E] [HasTy P E ty] {x y : Operand} {l off n k n2 : Nat} {tk : Tok} {T' : TypeId} {cs cs' cs2 : List D} {z : List UInt8} (hsz : ty.size = 1) (ho : o.op = .call { callee := .builtin .copy, args := #[x, y], argTypes := #[dT, sT] }) (hx : oev ρ x = some (.ms l off n)) (hy : oev ρ y = some (.slice tk n2 cs2)) (hm : mget m l = some (.var T' cs)) (hk : Nat.min n2 n = k) (hz : cs2.take k = bs z) (hzl : z.length = k) (hsp : splice off (bs z) cs = some cs') : OpSound P o ⟨.int .i64 k, [], [(l, some (.var T' cs'))], []⟩ ρ m := by
  refine copy_core hsz ho hx hm hzl hsp fun G w a h => ?_
  have hq := h y (by simp [ho, Op.operands, Call.operands]) _ hy
  generalize a.eval y = vy at hq
  cases hq with
  | nil tk =>
    have hk0 : k = 0 := by rw [← hk]; exact Nat.eq_zero_of_le_zero (Nat.min_le_left _ _)
    subst hk0
    have : z = [] := List.length_eq_zero_iff.1 hzl
    subst this
    exact ⟨0, rfl, hk, by simp [Builtin.firstCells]⟩
  | slice tk n cs b o' cap vs hl' h1 hh hhw hc hb' hn ht' =>
    refine ⟨n2, rfl, hk, ?_⟩
    have hr := run_firstCells_some (P := P) w 1 k ⟨b, o', none⟩ n2 cap (z.map fun b => Value.int .u8 b.toNat) (by simp [hzl]) (fun j v hj => by
      rw [List.getElem?_map] at hj
      obtain ⟨c, hcj, rfl⟩ := Option.map_eq_some_iff.1 hj
      have hd : (cs2.take k)[j]? = some (.int .u8 (c.toNat : Int)) := by rw [hz]; exact bs_get z j _ hcj
      have hjk : j < k := by rw [← hzl]; exact (List.getElem?_eq_some_iff.1 hcj).1
      rw [List.getElem?_take, if_pos hjk] at hd
      have hlt := (List.getElem?_eq_some_iff.1 hd).1
      rw [add_off, hc j hlt]
      have hvj : vs[j]? = some (vs[j]'(by omega)) := Array.getElem?_eq_getElem _
      have hq := hh j _ _ hd hvj
      rw [hvj]
      generalize vs[j]'(by omega) = u at hq
      cases hq; rfl)
    rw [hr]
end
section
variable {P : Program} {ρ : Slots} {m : Mem} {nx : Nat} {ops : Array Oper} {os : List Oper} {K : List Eff → Slots → Mem → Nat → Prop}
theorem k_copyd {t : Tmp} {dT sT E : TypeId} {ty : Ty} [HasSl P dT E] [HasTy P E ty] {x y : Operand} {l off n k n2 : Nat} {tk : Tok} {T' : TypeId} {cs cs' cs2 : List D} {z : List UInt8} {V : TypeId} {pos : String} {af : Array Edge} {gd : Option (Nat × Bool)} (hg : gok ops ρ ⟨some t, .call { callee := .builtin .copy, args := #[x, y], argTypes := #[dT, sT] }, V, pos, af, gd⟩ = some true) (hsz : ty.size = 1) (hx : oev ρ x = some (.ms l off n)) (hy : oev ρ y = some (.slice tk n2 cs2)) (hm : mget m l = some (.var T' cs)) (hk : Nat.min n2 n = k) (hz : cs2.take k = bs z) (hzl : z.length = k) (hsp : splice off (bs z) cs = some cs')
    (hh : R P ops os (fun Es => K (⟨.int .i64 k, [], [(l, some (.var T' cs'))], []⟩ :: Es)) ((t, .int .i64 k) :: ρ) ((l, some (.var T' cs')) :: m) nx) : R P ops (⟨some t, .call { callee := .builtin .copy, args := #[x, y], argTypes := #[dT, sT] }, V, pos, af, gd⟩ :: os) K ρ m nx := R_cons hg (r_copyd hsz rfl hx hy hm hk hz hzl hsp) rfl hh
end
end Go.Proofs.Ytcfefmbbbfdppaa
namespace Go.Proofs.Ytcfefmbbbfdppaa
open Go.RowKit
set_option linter.unusedVariables false
theorem pur_upl {P : Program} {F : FuncId} {ds es : List D} {d : D} (h : Pur P F es d) (u : Ups ds es) : Pur P F ds d := fun w hw vs hg hok hr => h w hw vs hg hok (u.reps hr)
end Go.Proofs.Ytcfefmbbbfdppaa
namespace Go.Proofs.Ytcfefmbbbfdppaa
open Go.RowKit
set_option linter.unusedVariables false
set_option linter.unusedVariables false
def nodupB : List Nat → Bool
  | [] => true
  | x :: xs => !(xs.any (Nat.beq x)) && nodupB xs
theorem nodupB_nodup : ∀ {l : List Nat}, nodupB l = true → l.Nodup
  | [], _ => List.nodup_nil
  | x :: xs, h => by
    simp only [nodupB, Bool.and_eq_true, Bool.not_eq_true'] at h
    refine List.nodup_cons.2 ⟨fun hx => ?_, nodupB_nodup h.2⟩
    have := List.any_eq_false.1 h.1 x hx
    simp at this
def idB (f : Nat → Nat) : Nat → Bool
  | 0 => true
  | k + 1 => Nat.beq (f k) k && idB f k
theorem idB_id {f : Nat → Nat} : ∀ {k : Nat}, idB f k = true → ∀ l, l < k → f l = l
  | 0, _, l, h => by omega
  | k + 1, h, l, hl => by
    simp only [idB, Bool.and_eq_true] at h
    by_cases e : l = k
    · rw [e]; exact Nat.eq_of_beq_eq_true h.1
    · exact idB_id h.2 l (by omega)
def knB (ns : List Nat) (m0 : Mem) : Nat → Bool
  | 0 => true
  | k + 1 => (inns ns k && (mget m0 k).isSome) && knB ns m0 k
theorem knB_kn {ns : List Nat} {m0 : Mem} : ∀ {k : Nat}, knB ns m0 k = true → ∀ l, l < k → inns ns l = true ∧ (mget m0 l).isSome = true
  | 0, _, l, h => by omega
  | k + 1, h, l, hl => by
    simp only [knB, Bool.and_eq_true] at h
    by_cases e : l = k
    · rw [e]; exact h.1
    · exact knB_kn h.2 l (by omega)
def betw (a b : Nat) : List Nat → Bool
  | [] => true
  | x :: xs => (Nat.ble a x && Nat.blt x b) && betw a b xs
theorem betw_mem {a b : Nat} : ∀ {l : List Nat}, betw a b l = true → ∀ x ∈ l, a ≤ x ∧ x < b
  | [], _, x, h => by simp at h
  | y :: ys, h, x, hx => by
    simp only [betw, Bool.and_eq_true] at h
    rcases List.mem_cons.1 hx with rfl | hx
    · exact ⟨Nat.le_of_ble_eq_true h.1.1, Nat.blt_eq ▸ h.1.2⟩
    · exact betw_mem h.2 x hx
section
variable {P : Program} {ρ : Slots} {m : Mem} {nx : Nat} {ops : Array Oper} {os : List Oper} {K : List Eff → Slots → Mem → Nat → Prop}
theorem q_endf {rs : Array ResultVar} {k : Nat} {d : D} {m1 : Mem} (f : Nat → Nat) (K : Nat) (h : RetsF P f ρ m rs d) (hd : d.lall (below K) = true) (hm : SubMf f K m m1) (hn : nodupB (m1.map fun x => f x.1) = true) (hk : Nat.ble k K = true) (hf : idB f k = true) : endF P rs k d m1 .normal ρ m nx ∧ endF P rs k d m1 .ret ρ m nx :=
  ⟨q_fn f K h hd hm (nodupB_nodup hn) (Nat.le_of_ble_eq_true hk) (idB_id hf), q_fr f K h hd hm (nodupB_nodup hn) (Nat.le_of_ble_eq_true hk) (idB_id hf)⟩
theorem k_callf {t : Tmp} {F : FuncId} [HasFn P F] {args : Array Operand} {ts : Array TypeId} {k : Nat} {ds ds1 : List D} {m0 : Mem} {d d' : D} {m1 wr : Mem} {nw : List Nat} {V : TypeId} {pos : String} {af : Array Edge} {gd : Option (Nat × Bool)} (f : Nat → Nat) (ns : List Nat) (nx1 : Nat) (hg : gok ops ρ ⟨some t, .call { callee := .value (.func F), args := args, argTypes := ts }, V, pos, af, gd⟩ = some true)
    (hp : Fn P F k ds m0 d m1) (hx : oevs ρ args.toList = some ds1) (hu : Ups ds1 (D.rens f ds)) (hl : D.lalls (below k) ds = true) (hm : SubMf f k m m0) (hi : nodupB (ns.map f) = true) (hi0 : nodupB (m0.map fun x => f x.1) = true) (hk : knB ns m0 k = true) (h1 : Mlall (inns ns) m1 = true) (hd : d.lall (inns ns) = true)
    (hd' : d.ren f = d') (hwr : wrs f m1 ns = wr) (hnw : nws f k ns = nw) (hnx : Nat.ble nx nx1 = true) (hb : betw nx nx1 nw = true)
    (hh : R P ops os (fun Es => K (⟨d', [], wr, nw⟩ :: Es)) ((t, d') :: ρ) (wr ++ m) nx1) : R P ops (⟨some t, .call { callee := .value (.func F), args := args, argTypes := ts }, V, pos, af, gd⟩ :: os) K ρ m nx := by
  subst hd' hwr hnw
  exact R_news nx1 hg (r_callf hp f ns rfl hx hu hl hm (nodupB_nodup hi) (nodupB_nodup hi0) (knB_kn hk) h1 hd) (Nat.le_of_ble_eq_true hnx) (betw_mem hb) hh
end
end Go.Proofs.Ytcfefmbbbfdppaa
namespace Go.Proofs.Ytcfefmbbbfdppaa
open Go.RowKit Go.Lib
set_option linter.unusedVariables false
section
variable {P : Program} {o : Oper} {ρ : Slots} {m : Mem}
theorem r_makeB {T E : TypeId} {by_ : Nat} [ha : HasSl P T E] [ht : HasTy P E ⟨false, 1, [.int .u8 0]⟩] [hb : HasBy P E by_] {x y : Operand} {n : Nat} (ho : o.op = .makeSlice T x y) (hx : oev ρ x = some (.int .i64 n)) (hy : oev ρ y = some (.int .i64 n)) (hn : n ≤ 16777216) (hby : Nat.ble by_ 1048576 = true) : OpSound P o (Eff.val (.slice .frozen n (bs (List.replicate n 0)))) ρ m := by
  refine sound_mk rfl fun B G a w m' hs h => ?_
  have hp := h x (by simp [ho, Op.operands]) _ hx
  have hq := h y (by simp [ho, Op.operands]) _ hy
  generalize hev : a.eval x = vx at hp
  generalize hev2 : a.eval y = vy at hq
  cases hp; cases hq
  obtain ⟨z, hz, hzr, hz1⟩ := ht.zero_
  obtain ⟨i, hi, hiz⟩ := Option.bind_eq_some_iff.1 hz
  obtain ⟨j, hj, hjs⟩ := Option.map_eq_some_iff.1 ht.size
  rw [hi] at hj; cases hj
  obtain ⟨j, hj, hjb⟩ := Option.map_eq_some_iff.1 hb.bytes
  rw [hi] at hj; cases hj
  have hzc := hzr G w
  have hsz : z.cells.size = 1 := hzc.1
  have hz0 : z.cells[0]? = some (.int .u8 0) := by
    have e : z.cells[0]? = some (z.cells[0]'(by omega)) := Array.getElem?_eq_getElem _
    have := hzc.2 0 _ _ rfl e
    rw [e]
    generalize z.cells[0]'(by omega) = u at this
    cases this; rfl
  have hby' := Nat.le_of_ble_eq_true hby
  have hrun := run_make (P := P) w T E i z ha.sl hi hiz .i64 .i64 (n : Int) (n : Int) (by omega) (Int.le_refl _) (by
    rw [hjb]
    have : by_ * n ≤ 1048576 * 16777216 := Nat.mul_le_mul hby' hn
    have e : ((by_ : Int) * (n : Int)) = ((by_ * n : Nat) : Int) := by push_cast; rfl
    rw [e]; omega) (by omega)
  rw [hjs] at hrun
  simp only [Int.toNat_natCast, Nat.mul_one] at hrun
  have hnew : New w (w.alloc (.cells (madeCells z.cells n) E)) := new_alloc (new_refl w) _
  refine ⟨.slice (some ⟨w.heap.size, 0, none⟩) n n, _, fun b => if b = w.heap.size then n else G.hw b, by simp only [execOp, ho, hev, hev2, Sem.run_bind, hrun, Result.andThen_ok, Sem.run_pure], hnew, fun b hb => ?_, fun b hb => by simp [Nat.ne_of_lt hb], ?_⟩
  · by_cases e : b = w.heap.size
    · subst e
      simp only [if_pos]
      exact ⟨madeCells z.cells n, E, (0, 0), heap_alloc_new w _, by rw [size_madeCells]; exact Nat.le_refl _⟩
    · simp only [if_neg e] at hb ⊢
      obtain ⟨vs, T', fr, h1, h2⟩ := hs.data b hb
      exact ⟨vs, T', fr, (hnew.block b (Array.getElem?_eq_some_iff.1 h1).1).trans h1, h2⟩
  · have hbl : (bs (List.replicate n 0)).length = n := by rw [bs_len, List.length_replicate]
    have hcell : ∀ k, k < n → (madeCells z.cells n)[k]? = some (.int .u8 0) := fun k hk => by
      unfold madeCells
      rw [Array.getElem?_map, Array.getElem?_range, if_pos hk, Option.map_some, hsz, Nat.mod_one, getElem!_pos z.cells 0 (by omega)]
      rw [← hz0]; exact (Array.getElem?_eq_getElem _).symm
    refine .slice .frozen n _ w.heap.size 0 n (madeCells z.cells n) (by rw [hbl, size_madeCells]) (fun d hd => ?_) (fun k d v hd hv => ?_) (by rw [hbl]; show 0 + n ≤ (if w.heap.size = w.heap.size then n else _); rw [if_pos rfl]; omega) (fun k hk => ?_) (by rw [World.size_alloc]; omega) (Nat.le_refl _) trivial
    · unfold bs at hd
      obtain ⟨c, _, rfl⟩ := List.mem_map.1 hd
      exact ⟨rfl, rfl⟩
    · have hk : k < n := by rw [← hbl]; exact (List.getElem?_eq_some_iff.1 hd).1
      rw [hcell k hk] at hv
      have := bs_get (List.replicate n 0) k 0 (by rw [List.getElem?_replicate, if_pos hk])
      rw [this] at hd
      cases hd; cases hv
      exact .int _ _
    · rw [hbl] at hk
      rw [cell_of_row _ _ _ (madeCells z.cells n) E (0, 0) (heap_alloc_new w _), Nat.zero_add]
end
section
variable {P : Program} {ρ : Slots} {m : Mem} {nx : Nat} {ops : Array Oper} {os : List Oper} {K : List Eff → Slots → Mem → Nat → Prop}
theorem k_makeB {t : Tmp} {T E : TypeId} {by_ : Nat} [HasSl P T E] [HasTy P E ⟨false, 1, [.int .u8 0]⟩] [HasBy P E by_] {x y : Operand} {n : Nat} {V : TypeId} {pos : String} {af : Array Edge} {gd : Option (Nat × Bool)} (hg : gok ops ρ ⟨some t, .makeSlice T x y, V, pos, af, gd⟩ = some true) (hx : oev ρ x = some (.int .i64 n)) (hy : oev ρ y = some (.int .i64 n)) (hn : n ≤ 16777216) (hby : Nat.ble by_ 1048576 = true) (hh : R P ops os (fun Es => K (Eff.val (.slice .frozen n (bs (List.replicate n 0))) :: Es)) ((t, .slice .frozen n (bs (List.replicate n 0))) :: ρ) m nx) :
    R P ops (⟨some t, .makeSlice T x y, V, pos, af, gd⟩ :: os) K ρ m nx := R_cons hg (r_makeB rfl hx hy hn hby) rfl hh
end
end Go.Proofs.Ytcfefmbbbfdppaa
namespace Go.Proofs.Ytcfefmbbbfdppaa
open Go.RowKit
set_option linter.unusedVariables false
theorem cls_ups (f : Nat → Nat) (z : List D) (h : D.cls z = true) : Ups z (D.rens f z) := by
  rw [(D.cls_ren f (fun _ => true) _ h).1]; exact Ups.refl _
theorem cls_lalls (p : Nat → Bool) (z : List D) (h : D.cls z = true) : D.lalls p z = true := (D.cls_ren (fun l => l) p _ h).2
end Go.Proofs.Ytcfefmbbbfdppaa
