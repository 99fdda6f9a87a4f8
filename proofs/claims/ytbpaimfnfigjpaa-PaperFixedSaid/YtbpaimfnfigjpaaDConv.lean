/- Bytes of a string, a string of bytes; strings compared. Of any program. No conditions. -/
import Derived.Test.YtbpaimfnfigjpaaBytes
import Derived.Test.YtbpaimfnfigjpaaDMore
import Derived.Lib.ConvBytes
import Derived.Laws.IdiomStrings
namespace Go.Proofs.Ytbpaimfnfigjpaa
open Go.RowKit Go.Lib
set_option linter.unusedVariables false

section
variable {P : Program} {o : Oper} {ρ : Slots} {m : Mem}
/-- an operation that makes new memory, and turns nothing -/
theorem sound_mk {d : D} (hd : d.cl = true)
    (h : ∀ (B : Base) (G : Gh) (a : Act) (w : World) (m' : Mem), Sim B G m' w → (∀ x ∈ o.op.operands, ∀ d, oev ρ x = some d → Rep G w d (a.eval x)) →
      ∃ v w' hw', (execOp a.eval o).run P w = .ok (.value v) w' ∧ New w w' ∧ HwOk hw' w' ∧ (∀ b, b < w.heap.size → hw' b = G.hw b) ∧ Rep (bare hw') w' d v) : OpSound P o (Eff.val d) ρ m := by
  intro B G a w m' K Q hs hx ht hn hK
  obtain ⟨v, w', hw', hv, hN, hok, hold, hrv⟩ := h B G a w m' hs hx
  unfold Oper.wp
  rw [hv, Oper.upon_value]
  have hlt : ∀ b, 0 < G.hw b → b < w.heap.size := fun b hb => by
    obtain ⟨_, _, _, hv, _⟩ := hs.data b hb
    exact (Array.getElem?_eq_some_iff.1 hv).1
  have hle : ∀ b, G.hw b ≤ hw' b := fun b => by
    rcases Nat.eq_zero_or_pos (G.hw b) with h0 | h0
    · omega
    · rw [hold b (hlt b h0)]; exact Nat.le_refl _
  have hx0 := Ext.grow hs.data hN
  let G2 : Gh := { G with hw := hw', al := fun k => G.al k && (G.nl k || decide (G.g k < w.heap.size)) }
  have hX : Ext G w G2 w' := by
    refine ⟨fun l hl => ⟨hl, rfl, fun ha => ?_, rfl, rfl⟩, hle, hx0.cell, hx0.size⟩
    simp only [G2, Bool.and_eq_true, Bool.or_eq_true, decide_eq_true_iff] at ha
    exact ⟨ha.1, fun hn => hold _ (ha.2.resolve_left (by rw [hn]; simp))⟩
  refine hK v w' _ hX ?_ (hrv.closed G2 rfl hd) fun l hl => .inl hl
  have hg := hs.grow hN
  show Sim B G2 m' w'
  refine ⟨hg.new, hs.ext.trans hX, fun b hb hT => ?_, fun l T cs hm => ?_, fun l E s hm => ?_, fun l K cs hm => ?_, hg.inj, hok⟩
  · show hw' b = B.G.hw b
    rw [hold b (Nat.lt_of_lt_of_le hb hs.new.size)]; exact hs.old b hb hT
  · obtain ⟨a1, a2, a3, a0, vs', a4, a5, a6⟩ := hs.var l T cs hm
    exact ⟨a1, a2, (hold _ (hs.vlt hm)).trans a3, a0, vs', (hN.block _ (hs.vlt hm)).trans a4, a5.mono hX, a6⟩
  · obtain ⟨a1, a2, a3⟩ := hs.tok l E s hm
    refine ⟨a1, ?_, fun hn => ?_⟩
    · simp only [G2, a2, Bool.true_and, Bool.or_eq_true, decide_eq_true_iff]
      cases hnl : G.nl l with
      | true => exact .inl rfl
      | false => exact .inr (hs.lt (by rw [hm]; rfl) hnl)
    · obtain ⟨c1, c2, vs', c3, c4, c5⟩ := a3 hn
      have hlt' := hs.lt (l := l) (by rw [hm]; rfl) hn
      exact ⟨c1, c2, vs', (hN.block _ hlt').trans c3, by show hw' (G.g l) ≤ _; rw [hold _ hlt']; exact c4, c5⟩
  · obtain ⟨a1, a2, a3⟩ := hs.obj l K cs hm
    refine ⟨a1, a2, fun hn => ?_⟩
    obtain ⟨c1, c2, o, c3, c4⟩ := a3 hn
    have hlt' := hs.lt (l := l) (by rw [hm]; rfl) hn
    exact ⟨c1, by show hw' (G.g l) = 0; rw [hold _ hlt']; exact c2, o, (hN.block _ hlt').trans c3, c4.mono hX⟩

theorem bs_get (l : List UInt8) (i : Nat) (x : UInt8) (h : l[i]? = some x) : (bs l)[i]? = some (.int .u8 (x.toNat : Int)) := by simp [bs, h]
theorem r_s2b {S T E : TypeId} [ha : HasSl P T E] {x : Operand} {s : ByteArray} {l : List UInt8} {n : Nat} (hS : P.underlying S = some .string) (hE : P.underlying E = some (.int .u8)) (ho : o.op = .convert S T x) (hx : oev ρ x = some (.str s)) (hl : s.data.toList = l) (hn : l.length = n) : OpSound P o (Eff.val (.slice .frozen n (bs l))) ρ m := by
  subst hl; subst hn
  refine sound_mk rfl fun B G a w m' hs h => ?_
  have hp := h x (by simp [ho, Op.operands]) _ hx
  generalize hev : a.eval x = vx at hp
  cases hp
  have hrun := Go.Lib.run_convert_string_bytes (P := P) w S T E s hS ha.sl hE
  have hsz : s.data.toList.length = s.size := by rw [Array.length_toList]; rfl
  have hnew : New w (bytesWorld w E s) := by
    unfold bytesWorld
    exact new_freeze (new_alloc (new_drew (new_refl w)) _) (Nat.le_refl _) 1
  have hgc := grownCap_ge w s.size 0 E
  refine ⟨.slice (some ⟨w.heap.size, 0, none⟩) s.size (grownCap w s.size 0 E), bytesWorld w E s, fun b => if b = w.heap.size then (bytesCells w E s).size else G.hw b, by simp only [execOp, ho, hev, Sem.run_bind, hrun, Result.andThen_ok, Sem.run_pure], hnew, fun b hb => ?_, fun b hb => by simp [Nat.ne_of_lt hb], ?_⟩
  · by_cases e : b = w.heap.size
    · subst e
      simp only [if_pos]
      exact ⟨_, _, _, bytesWorld_at_new w E s, Nat.le_refl _⟩
    · simp only [if_neg e] at hb ⊢
      obtain ⟨vs, T', fr, h1, h2⟩ := hs.data b hb
      exact ⟨vs, T', fr, (hnew.block b (Array.getElem?_eq_some_iff.1 h1).1).trans h1, h2⟩
  · rw [← hsz]
    have hbl : (bs s.data.toList).length = s.size := by rw [bs_len, hsz]
    refine .slice .frozen _ _ _ 0 _ (s.data.map fun b => Value.int .u8 b.toNat) (by rw [hbl]; simp) (fun d hd => ?_) (fun i d v hd hv => ?_) ?_ (fun i hi => ?_) ?_ (by rw [hsz]; exact hgc) trivial
    · obtain ⟨y, _, rfl⟩ := List.mem_map.1 hd
      exact ⟨rfl, rfl⟩
    · obtain ⟨y, hy, rfl⟩ : ∃ y, s.data[i]? = some y ∧ d = .int .u8 (y.toNat : Int) := by
        unfold bs at hd
        rw [List.getElem?_map] at hd
        obtain ⟨y, h1, h2⟩ := Option.map_eq_some_iff.1 hd
        exact ⟨y, by simpa using h1, h2.symm⟩
      rw [Array.getElem?_map, hy] at hv
      simp at hv; subst hv
      exact .int _ _
    · show 0 + _ ≤ (if _ then _ else _)
      rw [if_pos rfl, hbl]; simp [bytesCells]
    · have hi' : i < s.size := by rw [← hbl]; exact hi
      rw [Nat.zero_add, bytesWorld_cell w E s i hi']
      have hlt : i < s.data.size := hi'
      rw [Array.getElem?_map, Array.getElem?_eq_getElem hlt]
      simp [List.getD, Array.getElem?_eq_getElem hlt]
    · rw [bytesWorld_size]; omega

theorem Rep.cell8 {G : Gh} {w : World} {tk : Tok} {n : Nat} {l : List UInt8} {v : Value} (h : Rep G w (.slice tk n (bs l)) v) (hn : n = l.length) : (v = .slice none 0 0 ∧ l = []) ∨ ∃ a cap, v = .slice (some a) l.length cap ∧ ∀ j (hj : j < l.length), w.cell? (a.add j) = some (.int .u8 (l[j].toNat : Int)) := by
  generalize hcs : bs l = cs at h
  cases h with
  | nil tk => exact .inl ⟨rfl, by cases l with | nil => rfl | cons a l => simp [bs] at hcs⟩
  | slice tk n cs b o cap vs hl h1 hh hhw hc hb hn' htk =>
    subst hcs; subst hn
    refine .inr ⟨⟨b, o, none⟩, cap, rfl, fun j hj => ?_⟩
    have hd := bs_get l j _ (List.getElem?_eq_getElem hj)
    have hv : vs[j]? = some (vs[j]'(by rw [hl, bs_len]; exact hj)) := Array.getElem?_eq_getElem _
    have hr := hh j _ _ hd hv
    rw [add_off, hc j (by rw [bs_len]; exact hj), hv]
    generalize vs[j]'(by rw [hl, bs_len]; exact hj) = u at hr
    cases hr; rfl
theorem r_b2s {S T E : TypeId} [ha : HasSl P S E] {x : Operand} {tk : Tok} {n : Nat} {l : List UInt8} (hT : P.underlying T = some .string) (hE : P.underlying E = some (.int .u8)) (ho : o.op = .convert S T x) (hx : oev ρ x = some (.slice tk n (bs l))) (hn : n = l.length) : OpSound P o (Eff.val (.str ⟨l.toArray⟩)) ρ m := by
  refine sound_val fun B G a w m' hs h _ => ?_
  have hp := (h x (by simp [ho, Op.operands]) _ hx).cell8 hn
  generalize hev : a.eval x = vx at hp
  refine ⟨.string ⟨l.toArray⟩, ?_, .str _⟩
  rcases hp with ⟨rfl, rfl⟩ | ⟨ad, cap, rfl, hc⟩
  · have hrun : (convert S T (.slice none 0 0)).run P w = .ok (.string ⟨#[]⟩) w := by
      simp [convert, Sem.run_bind, run_underlying ha.sl, run_underlying hT, run_underlying hE, Conv.bytesToString]
      rfl
    simp only [execOp, ho, hev, Sem.run_bind, hrun, Result.andThen_ok, Sem.run_pure]
  · have hrun := run_convert_bytes_back (P := P) w S T E ad cap l ha.sl hE hT hc
    simp only [execOp, ho, hev, Sem.run_bind, hrun, Result.andThen_ok, Sem.run_pure]
theorem r_strop {op : BinOp} {T U : TypeId} {x y : Operand} {s t : ByteArray} {c : Bool} (ho : o.op = .binOp op T x y U) (hx : oev ρ x = some (.str s)) (hy : oev ρ y = some (.str t)) (hop : op ≠ .shl ∧ op ≠ .shr) (h : ∀ w, (Op.stringOp op s t).run P w = .ok (.bool c) w) : OpSound P o (Eff.val (.bool c)) ρ m :=
  sound_bin ho hx hy fun G w vx vy h1 h2 => by
    cases h1; cases h2
    have hb : ∀ w, (binOp op T (.string s) (.string t)).run P w = .ok (.bool c) w := fun w => by
      rw [← h w]; cases op <;> first | rfl | simp at hop
    exact ⟨.bool c, by simp [eqGuard, hb], .bool c⟩
theorem r_nes {T U : TypeId} {x y : Operand} {s t : ByteArray} {c : Bool} (ho : o.op = .binOp .neq T x y U) (hx : oev ρ x = some (.str s)) (hy : oev ρ y = some (.str t)) (h : (!(s.toList == t.toList)) = c) : OpSound P o (Eff.val (.bool c)) ρ m :=
  r_strop ho hx hy (by decide) fun w => by rw [← h]; rfl
theorem r_eqs {T U : TypeId} {x y : Operand} {s t : ByteArray} {c : Bool} (ho : o.op = .binOp .eql T x y U) (hx : oev ρ x = some (.str s)) (hy : oev ρ y = some (.str t)) (h : (s.toList == t.toList) = c) : OpSound P o (Eff.val (.bool c)) ρ m :=
  r_strop ho hx hy (by decide) fun w => by rw [← h]; rfl
theorem r_lts {T U : TypeId} {x y : Operand} {s t : ByteArray} {c : Bool} (ho : o.op = .binOp .lss T x y U) (hx : oev ρ x = some (.str s)) (hy : oev ρ y = some (.str t)) (h : Op.bytesLess s.toList t.toList = c) : OpSound P o (Eff.val (.bool c)) ρ m :=
  r_strop ho hx hy (by decide) fun w => by rw [← h]; rfl
end

section
variable {P : Program} {ρ : Slots} {m : Mem} {nx : Nat} {ops : Array Oper} {os : List Oper} {K : List Eff → Slots → Mem → Nat → Prop}
theorem k_s2b {t : Tmp} {S T E : TypeId} [HasSl P T E] {x : Operand} {s : ByteArray} {l : List UInt8} {n : Nat} {V : TypeId} {pos : String} {af : Array Edge} {gd : Option (Nat × Bool)} (hg : gok ops ρ ⟨some t, .convert S T x, V, pos, af, gd⟩ = some true) (hS : P.underlying S = some .string) (hE : P.underlying E = some (.int .u8)) (hx : oev ρ x = some (.str s)) (hl : s.data.toList = l) (hn : l.length = n) (hh : R P ops os (fun Es => K (Eff.val (.slice .frozen n (bs l)) :: Es)) ((t, .slice .frozen n (bs l)) :: ρ) m nx) :
    R P ops (⟨some t, .convert S T x, V, pos, af, gd⟩ :: os) K ρ m nx := R_cons hg (r_s2b hS hE rfl hx hl hn) rfl hh
theorem k_b2s {t : Tmp} {S T E : TypeId} [HasSl P S E] {x : Operand} {tk : Tok} {n : Nat} {l : List UInt8} {V : TypeId} {pos : String} {af : Array Edge} {gd : Option (Nat × Bool)} (hg : gok ops ρ ⟨some t, .convert S T x, V, pos, af, gd⟩ = some true) (hT : P.underlying T = some .string) (hE : P.underlying E = some (.int .u8)) (hx : oev ρ x = some (.slice tk n (bs l))) (hn : n = l.length) (hh : R P ops os (fun Es => K (Eff.val (.str ⟨l.toArray⟩) :: Es)) ((t, .str ⟨l.toArray⟩) :: ρ) m nx) :
    R P ops (⟨some t, .convert S T x, V, pos, af, gd⟩ :: os) K ρ m nx := R_cons hg (r_b2s hT hE rfl hx hn) rfl hh
theorem k_nes {t : Tmp} {T U : TypeId} {x y : Operand} {s s' : ByteArray} {c : Bool} {V : TypeId} {pos : String} {af : Array Edge} {gd : Option (Nat × Bool)} (hg : gok ops ρ ⟨some t, .binOp .neq T x y U, V, pos, af, gd⟩ = some true) (hx : oev ρ x = some (.str s)) (hy : oev ρ y = some (.str s')) (h : (!(s.toList == s'.toList)) = c) (hh : R P ops os (fun Es => K (Eff.val (.bool c) :: Es)) ((t, .bool c) :: ρ) m nx) :
    R P ops (⟨some t, .binOp .neq T x y U, V, pos, af, gd⟩ :: os) K ρ m nx := R_cons hg (r_nes rfl hx hy h) rfl hh
theorem k_eqs {t : Tmp} {T U : TypeId} {x y : Operand} {s s' : ByteArray} {c : Bool} {V : TypeId} {pos : String} {af : Array Edge} {gd : Option (Nat × Bool)} (hg : gok ops ρ ⟨some t, .binOp .eql T x y U, V, pos, af, gd⟩ = some true) (hx : oev ρ x = some (.str s)) (hy : oev ρ y = some (.str s')) (h : (s.toList == s'.toList) = c) (hh : R P ops os (fun Es => K (Eff.val (.bool c) :: Es)) ((t, .bool c) :: ρ) m nx) :
    R P ops (⟨some t, .binOp .eql T x y U, V, pos, af, gd⟩ :: os) K ρ m nx := R_cons hg (r_eqs rfl hx hy h) rfl hh
theorem k_lts {t : Tmp} {T U : TypeId} {x y : Operand} {s s' : ByteArray} {c : Bool} {V : TypeId} {pos : String} {af : Array Edge} {gd : Option (Nat × Bool)} (hg : gok ops ρ ⟨some t, .binOp .lss T x y U, V, pos, af, gd⟩ = some true) (hx : oev ρ x = some (.str s)) (hy : oev ρ y = some (.str s')) (h : Op.bytesLess s.toList s'.toList = c) (hh : R P ops os (fun Es => K (Eff.val (.bool c) :: Es)) ((t, .bool c) :: ρ) m nx) :
    R P ops (⟨some t, .binOp .lss T x y U, V, pos, af, gd⟩ :: os) K ρ m nx := R_cons hg (r_lts rfl hx hy h) rfl hh
end
end Go.Proofs.Ytbpaimfnfigjpaa
