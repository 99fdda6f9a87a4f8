/- wide's Bytes. Conditions: a number below 2 to the 256. -/
import Derived.Test.YtcfefmbbbfdppaaGreatDoorSBytes
import Derived.Test.YtcfefmbbbfdppaaGreatDoorSDMore
import Derived.Lib.ConvBytes
import Derived.Laws.IdiomStrings
import Derived.Test.YtcfefmbbbfdppaaGreatDoorSDInst
namespace Go.Proofs.YtcfefmbbbfdppaaGreatDoor
open Go.RowKit Go.Lib
set_option linter.unusedVariables false
section
variable {P : Program} {o : Oper} {ρ : Slots} {m : Mem}
theorem bs_get (l : List UInt8) (i : Nat) (x : UInt8) (h : l[i]? = some x) : (bs l)[i]? = some (.int .u8 (x.toNat : Int)) := by simp [bs, h]
theorem Rep.cell8 {G : Gh} {w : World} {tk : Tok} {n : Nat} {l : List UInt8} {v : Value} (h : Rep G w (.slice tk n (bs l)) v) (hn : n = l.length) : (v = .slice none 0 0 ∧ l = []) ∨ ∃ a cap, v = .slice (some a) l.length cap ∧ ∀ j (hj : j < l.length), w.cell? (a.add j) = some (.int .u8 (l[j].toNat : Int)) := by
  generalize hcs : bs l = cs at h
  cases h with
  | nil tk => exact .inl ⟨rfl, by cases l with | nil => rfl | cons a l => simp [bs] at hcs⟩
  | slice tk n cs b o cap vs hl h1 hh hhw hc hb hn' htk =>
    subst hcs; subst hn
    refine .inr ⟨⟨b, o, none⟩, cap, rfl, fun j hj => ?_⟩
    have hd := bs_get l j _ (List.getElem?_eq_getElem hj)
    have hv : vs[j]? = some (vs[j]'(by rw [hl, bs_len]; exact hj)) := Array.getElem?_eq_getElem _
    have hr := hh j _ _ hd hv
    rw [add_off, hc j (by rw [bs_len]; exact hj), hv]
    generalize vs[j]'(by rw [hl, bs_len]; exact hj) = u at hr
    cases hr; rfl
theorem r_b2s {S T E : TypeId} [ha : HasSl P S E] {x : Operand} {tk : Tok} {n : Nat} {l : List UInt8} (hT : P.underlying T = some .string) (hE : P.underlying E = some (.int .u8)) (ho : o.op = .convert S T x) (hx : oev ρ x = some (.slice tk n (bs l))) (hn : n = l.length) : OpSound P o (Eff.val (.str ⟨l.toArray⟩)) ρ m := by
  refine sound_val fun B G a w m' hs h _ => ?_
  have hp := (h x (by simp [ho, Op.operands]) _ hx).cell8 hn
  generalize hev : a.eval x = vx at hp
  refine ⟨.string ⟨l.toArray⟩, ?_, .str _⟩
  rcases hp with ⟨rfl, rfl⟩ | ⟨ad, cap, rfl, hc⟩
  · have hrun : (convert S T (.slice none 0 0)).run P w = .ok (.string ⟨#[]⟩) w := by
      simp [convert, Sem.run_bind, run_underlying ha.sl, run_underlying hT, run_underlying hE, Conv.bytesToString]
      rfl
    simp only [execOp, ho, hev, Sem.run_bind, hrun, Result.andThen_ok, Sem.run_pure]
  · have hrun := run_convert_bytes_back (P := P) w S T E ad cap l ha.sl hE hT hc
    simp only [execOp, ho, hev, Sem.run_bind, hrun, Result.andThen_ok, Sem.run_pure]
theorem r_strop {op : BinOp} {T U : TypeId} {x y : Operand} {s t : ByteArray} {c : Bool} (ho : o.op = .binOp op T x y U) (hx : oev ρ x = some (.str s)) (hy : oev ρ y = some (.str t)) (hop : op ≠ .shl ∧ op ≠ .shr) (h : ∀ w, (Op.stringOp op s t).run P w = .ok (.bool c) w) : OpSound P o (Eff.val (.bool c)) ρ m :=
  sound_bin ho hx hy fun G w vx vy h1 h2 => by
    cases h1; cases h2
    have hb : ∀ w, (binOp op T (.string s) (.string t)).run P w = .ok (.bool c) w := fun w => by
      rw [← h w]; cases op <;> first | rfl | simp at hop
    exact ⟨.bool c, by simp [eqGuard, hb], .bool c⟩
theorem r_eqs {T U : TypeId} {x y : Operand} {s t : ByteArray} {c : Bool} (ho : o.op = .binOp .eql T x y U) (hx : oev ρ x = some (.str s)) (hy : oev ρ y = some (.str t)) (h : (s.toList == t.toList) = c) : OpSound P o (Eff.val (.bool c)) ρ m :=
  r_strop ho hx hy (by decide) fun w => by rw [← h]; rfl
end
section
variable {P : Program} {ρ : Slots} {m : Mem} {nx : Nat} {ops : Array Oper} {os : List Oper} {K : List Eff → Slots → Mem → Nat → Prop}
theorem k_b2s {t : Tmp} {S T E : TypeId} [HasSl P S E] {x : Operand} {tk : Tok} {n : Nat} {l : List UInt8} {V : TypeId} {pos : String} {af : Array Edge} {gd : Option (Nat × Bool)} (hg : gok ops ρ ⟨some t, .convert S T x, V, pos, af, gd⟩ = some true) (hT : P.underlying T = some .string) (hE : P.underlying E = some (.int .u8)) (hx : oev ρ x = some (.slice tk n (bs l))) (hn : n = l.length) (hh : R P ops os (fun Es => K (Eff.val (.str ⟨l.toArray⟩) :: Es)) ((t, .str ⟨l.toArray⟩) :: ρ) m nx) :
    R P ops (⟨some t, .convert S T x, V, pos, af, gd⟩ :: os) K ρ m nx := R_cons hg (r_b2s hT hE rfl hx hn) rfl hh
theorem k_eqs {t : Tmp} {T U : TypeId} {x y : Operand} {s s' : ByteArray} {c : Bool} {V : TypeId} {pos : String} {af : Array Edge} {gd : Option (Nat × Bool)} (hg : gok ops ρ ⟨some t, .binOp .eql T x y U, V, pos, af, gd⟩ = some true) (hx : oev ρ x = some (.str s)) (hy : oev ρ y = some (.str s')) (h : (s.toList == s'.toList) = c) (hh : R P ops os (fun Es => K (Eff.val (.bool c) :: Es)) ((t, .bool c) :: ρ) m nx) :
    R P ops (⟨some t, .binOp .eql T x y U, V, pos, af, gd⟩ :: os) K ρ m nx := R_cons hg (r_eqs rfl hx hy h) rfl hh
end
end Go.Proofs.YtcfefmbbbfdppaaGreatDoor
namespace Go.Proofs.YtcfefmbbbfdppaaGreatDoor
open Go.RowKit Go.Lib
set_option linter.unusedVariables false
def nm (l : List UInt8) : Nat := l.foldl (fun a c => a * 256 + c.toNat) 0
def toB : Nat → Nat → List UInt8
  | 0, _ => []
  | k + 1, n => toB k (n / 256) ++ [UInt8.ofNat n]
theorem toB_len : ∀ (k n : Nat), (toB k n).length = k
  | 0, _ => rfl
  | k + 1, n => by simp [toB, toB_len k]
theorem nm_snoc (l : List UInt8) (c : UInt8) : nm (l ++ [c]) = nm l * 256 + c.toNat := by simp [nm, List.foldl_append]
theorem nm_toB : ∀ (k n : Nat), nm (toB k n) = n % 256 ^ k
  | 0, n => by simp [toB, nm, Nat.mod_one]
  | k + 1, n => by
    have e : (256 : Nat) ^ (k + 1) = 256 * 256 ^ k := by rw [Nat.pow_succ, Nat.mul_comm]
    rw [toB, nm_snoc, nm_toB k, UInt8.toNat_ofNat', e, Nat.mod_mul]
    omega
theorem toB_nm : ∀ (k : Nat) (l : List UInt8), l.length = k → toB k (nm l) = l
  | 0, l, h => by
    have : l = [] := List.eq_nil_of_length_eq_zero h
    subst this; rfl
  | k + 1, l, h => by
    have hne : l ≠ [] := fun e => by rw [e] at h; cases h
    obtain ⟨i, c, rfl⟩ : ∃ i c, l = i ++ [c] := ⟨l.dropLast, l.getLast hne, (List.dropLast_concat_getLast hne).symm⟩
    have hi : i.length = k := by simp at h; exact h
    have hc := c.toNat_lt
    rw [nm_snoc, toB, show (nm i * 256 + c.toNat) / 256 = nm i from by omega, toB_nm k i hi]
    have : UInt8.ofNat (nm i * 256 + c.toNat) = c := by
      apply UInt8.toNat_inj.1
      rw [UInt8.toNat_ofNat']; omega
    rw [this]
theorem nm_lt (l : List UInt8) : nm l < 256 ^ l.length := by
  have h := toB_nm l.length l rfl
  have := nm_toB l.length (nm l)
  rw [h] at this
  rw [this]
  exact Nat.mod_lt _ (Nat.pow_pos (by decide))
theorem toB_get : ∀ (k n j : Nat), j < k → (toB k n)[j]? = some (UInt8.ofNat (n / 256 ^ (k - 1 - j)))
  | k + 1, n, j, h => by
    rw [toB]
    rcases Nat.lt_or_ge j k with h1 | h1
    · rw [List.getElem?_append_left (by rw [toB_len]; exact h1), toB_get k _ j h1, Nat.div_div_eq_div_mul]
      congr 3
      rw [← Nat.pow_succ']
      congr 1; omega
    · have : j = k := by omega
      subst this
      rw [List.getElem?_append_right (by rw [toB_len]; exact Nat.le_refl _), toB_len]
      simp
def b32 (n : Nat) : List UInt8 := toB 32 n
theorem b32_len (n : Nat) : (b32 n).length = 32 := toB_len 32 n
theorem nm_b32 (n : Nat) (h : n < M256) : nm (b32 n) = n := by
  unfold b32
  rw [nm_toB, Nat.mod_eq_of_lt (by have : (256 : Nat) ^ 32 = M256 := by decide
                                   omega)]
theorem nm_lt32 (l : List UInt8) (h : l.length = 32) : nm l < M256 := by
  have := nm_lt l
  rw [h] at this
  have e : (256 : Nat) ^ 32 = M256 := by decide
  omega
def xb (n i : Nat) : Int := ((n / 256 ^ i % 256 : Nat) : Int)
theorem b32_bs (n : Nat) : bs (b32 n) = (List.range 32).map fun j => D.int .u8 (xb n (31 - j)) := by
  apply List.ext_getElem?
  intro j
  rcases Nat.lt_or_ge j 32 with h | h
  · unfold b32
    rw [bs_get _ _ _ (toB_get 32 n j h), List.getElem?_map, List.getElem?_range h]
    show some (D.int .u8 (((UInt8.ofNat (n / 256 ^ (32 - 1 - j))).toNat : Nat) : Int)) = some _
    rw [UInt8.toNat_ofNat']; rfl
  · rw [List.getElem?_eq_none (by rw [bs_len, b32_len]; exact h), List.getElem?_eq_none (by simp; exact h)]
theorem lim_byte (n q r : Nat) (hr : r < 8) : IntKind.u8.wrap ((lim n q).fdiv (2 ^ (8 * r))) = xb n (8 * q + r) := by
  unfold lim xb
  rw [Int.fdiv_eq_ediv_of_nonneg _ (by exact Int.le_of_lt (Int.pow_pos (by decide)))]
  have e1 : ((2 : Int) ^ (8 * r)) = ((256 ^ r : Nat) : Int) := by
    rw [Int.natCast_pow, Int.pow_mul]; rfl
  rw [e1, ← Int.natCast_ediv, IntKind.wrap_u8]
  have e2 : n / 18446744073709551616 ^ q % 18446744073709551616 / 256 ^ r % 256 = n / 256 ^ (8 * q + r) % 256 := by
    have p1 : (18446744073709551616 : Nat) = 256 ^ 8 := by decide
    have p2 : (256 : Nat) ^ 8 = 256 ^ r * 256 ^ (8 - r) := by rw [← Nat.pow_add]; congr 1; omega
    rw [p1, ← Nat.pow_mul]
    conv => lhs; rw [show (256 : Nat) ^ 8 = 256 ^ r * 256 ^ (8 - r) from p2]
    rw [Nat.mod_mul_right_div_self, Nat.div_div_eq_div_mul, ← Nat.pow_add]
    rw [Nat.mod_mod_of_dvd]
    exact Nat.dvd_trans (by decide : 256 ∣ 256 ^ 1) (Nat.pow_dvd_pow 256 (by omega))
  omega
end Go.Proofs.YtcfefmbbbfdppaaGreatDoor
namespace Go.Proofs.YtcfefmbbbfdppaaGreatDoor
open Go.RowKit Go.Lib
set_option linter.unusedVariables false
theorem ba_list (s : ByteArray) : s.toList = s.data.toList := by rw [ByteArray.toList_eq]
theorem ba_mk (l : List UInt8) : (⟨l.toArray⟩ : ByteArray).toList = l := ba_list _
end Go.Proofs.YtcfefmbbbfdppaaGreatDoor
namespace Go.Proofs.YtcfefmbbbfdppaaGreatDoor
open Go.RowKit Go.Lib
set_option linter.unusedVariables false
section
variable {P : Program} {o : Oper} {ρ : Slots} {m : Mem}
theorem copy_core {dT sT E : TypeId} {ty : Ty} [ha : HasSl P dT E] [ht : HasTy P E ty] {x y : Operand} {l off n k : Nat} {T' : TypeId} {cs cs' : List D} {z : List UInt8} (hsz : ty.size = 1) (ho : o.op = .call { callee := .builtin .copy, args := #[x, y], argTypes := #[dT, sT] }) (hx : oev ρ x = some (.ms l off n)) (hm : mget m l = some (.var T' cs)) (hz : z.length = k) (hsp : splice off (bs z) cs = some cs')
    (hsrc : ∀ (G : Gh) (w : World) (a : Act), (∀ x ∈ o.op.operands, ∀ d, oev ρ x = some d → Rep G w d (a.eval x)) → ∃ sl, (Builtin.lenOf (a.eval y)).run P w = .ok sl w ∧ Nat.min sl n = k ∧ (Builtin.firstCells 1 k (a.eval y)).run P w = .ok ((z.map fun b => Value.int .u8 b.toNat).toArray) w) : OpSound P o ⟨.int .i64 k, [], [(l, some (.var T' cs'))], []⟩ ρ m := by
  intro B G a w m' K Q hs h hag hn hK
  have hml : mget m' l = some (.var T' cs) := (hag l (by unfold Eff.touch Eff.writes; simp)).trans hm
  obtain ⟨vs, hv, hr, h1'⟩ := hs.at_ hml
  have hp := h x (by simp [ho, Op.operands, Call.operands]) _ hx
  generalize hev : a.eval x = vx at hp
  cases hp with
  | ms _ _ _ cap hk hn' =>
    obtain ⟨sl, e1, e2, e3⟩ := hsrc G w a h
    have hc1 : Reps G w (bs z) (z.map fun b => Value.int .u8 b.toNat).toArray := by
      refine ⟨by simp [bs_len], fun i d v hd hv => ?_⟩
      unfold bs at hd
      rw [List.getElem?_map] at hd
      obtain ⟨b, hb, rfl⟩ := Option.map_eq_some_iff.1 hd
      simp [hb] at hv
      subst hv
      exact .int _ _
    have hc2 : ∀ d ∈ bs z, d.one = true := fun d hd => by
      obtain ⟨b, _, rfl⟩ := List.mem_map.1 hd; rfl
    obtain ⟨hle, hr', h1''⟩ := hr.splice hc1 h1' hc2 hsp
    obtain ⟨i, hi, hsi⟩ := Option.map_eq_some_iff.1 ht.size
    rw [hsz] at hsi
    have hone : ∀ v ∈ (z.map fun b => Value.int .u8 b.toNat), v.oneCell' = true := fun v hv => by
      obtain ⟨b, _, rfl⟩ := List.mem_map.1 hv; rfl
    have hst := run_storeCells_at (P := P) (G.g l) off T' (z.map fun b => Value.int .u8 b.toNat) 0 vs w hv (by simp at hle; simp; omega) hone
    simp only [Nat.add_zero, List.length_map] at hst
    have hrun : (execOp a.eval o).run P w = .ok (.value (.int .i64 k)) (w.setRow (G.g l) (vs.toList.take off ++ (z.map fun b => Value.int .u8 b.toNat) ++ vs.toList.drop (off + z.length)).toArray) := by
      unfold execOp
      simp only [ho, resolve, invoke, builtin, Sem.run_bind, Sem.run_pure, Result.andThen_ok, List.map_toArray, List.map_cons, List.map_nil, hev]
      simp [Builtin.copy_, Sem.run_bind, run_underlying ha.sl, e1, e2, sizeOf, typeInfo, hi, hsi, e3, hst, goInt, Result.andThen]
    unfold Oper.wp
    rw [hrun, Oper.upon_value]
    have hg : w.grownBy (w.setRow (G.g l) (vs.toList.take off ++ (z.map fun b => Value.int .u8 b.toNat) ++ vs.toList.drop (off + z.length)).toArray) (some (G.g l)) := by
      refine ⟨rfl, rfl, rfl, by simp [World.setRow], fun i hi hne => ?_⟩
      have : ¬ G.g l = i := fun h => hne (by rw [h])
      simp [World.setRow, Array.getElem?_modify, this]
    have hr2 : Reps G w cs' (vs.toList.take off ++ (z.map fun b => Value.int .u8 b.toNat) ++ vs.toList.drop (off + z.length)).toArray := by
      have := hr'; simpa using this
    obtain ⟨hx', hs'⟩ := hs.write hml hg (setRow_heap w _ vs _ T' (0, 0) hv) hr2 h1''
    exact hK _ _ G hx' hs' (.int _ _) fun l hl => .inl hl
end
section
variable {P : Program} {ρ : Slots} {m : Mem} {nx : Nat} {ops : Array Oper} {os : List Oper} {K : List Eff → Slots → Mem → Nat → Prop}
end
end Go.Proofs.YtcfefmbbbfdppaaGreatDoor
namespace Go.Proofs.YtcfefmbbbfdppaaGreatDoor
open Go.RowKit Go.Lib
set_option linter.unusedVariables false
theorem b_len {z : List UInt8} (h : z.length = 32) : (D.agg (bs z)).cells.length = 32 := by show (bs z).length = 32; rw [bs_len, h]
theorem b_fits (z : List UInt8) : (D.agg (bs z)).fits = true := rfl
theorem b_put {z : List UInt8} (h : z.length = 32) (cs : List D) (hc : cs.length = 32) : splice 0 (bs z) cs = some (bs z) := by
  unfold splice
  rw [Nat.ble_eq_true_of_le (by rw [bs_len, h, hc]; exact Nat.le_refl _), cond_true, Nat.zero_add, List.drop_of_length_le (by rw [bs_len, h, hc]; exact Nat.le_refl _)]
  simp
theorem b_cut {z : List UInt8} (h : z.length = 32) (ze : List D) : cut ⟨true, 32, ze⟩ 0 (bs z) = some (.agg (bs z)) := by
  unfold cut
  simp only [cond_true, Nat.zero_add, List.drop_zero]
  rw [Nat.ble_eq_true_of_le (by rw [bs_len, h]; exact Nat.le_refl _), cond_true, List.take_of_length_le (by rw [bs_len, h]; exact Nat.le_refl _)]
theorem bs_fzs : ∀ (l : List UInt8), D.fzs (bs l) = bs l
  | [] => rfl
  | a :: l => by
    show (D.int .u8 (a.toNat : Int)).fz :: D.fzs (bs l) = _
    rw [bs_fzs l]; rfl
theorem b_fz (z : List UInt8) : (D.agg (bs z)).fz = .agg (bs z) := by
  show D.agg (D.fzs (bs z)) = _
  rw [bs_fzs]
theorem b_fz1 (z : List UInt8) : D.fzs [D.agg (bs z)] = [D.agg (bs z)] := by
  show [(D.agg (bs z)).fz] = _
  rw [b_fz]
theorem b_cl1 (z : List UInt8) : D.cls [D.agg (bs z)] = true := by
  show (D.cls (bs z) && true) = true
  rw [bs_cl]; rfl
theorem b_ms {z : List UInt8} (h : z.length = 32) (off n : Nat) (ho : off = 0) (hn : n = 32) : ((bs z).drop off).take n = bs z := by
  subst ho; subst hn
  exact List.take_of_length_le (by rw [List.drop_zero, bs_len, h]; exact Nat.le_refl _)
end Go.Proofs.YtcfefmbbbfdppaaGreatDoor
namespace Go.Proofs.YtcfefmbbbfdppaaGreatDoor
open Go.RowKit Go.Lib Go.IntWalk
set_option linter.unusedVariables false
set_option maxRecDepth 100000
def ar (n k : Nat) : List D := (List.range 32).map fun j => D.int .u8 (if 32 ≤ j + k then xb n (31 - j) else 0)
theorem ar_end (n : Nat) : ar n 32 = bs (b32 n) := by
  rw [b32_bs]; unfold ar
  refine List.map_congr_left fun j _ => ?_
  rw [if_pos (by omega)]
theorem ar_len (n k : Nat) : (ar n k).length = 32 := by simp [ar]
theorem ar_get (n k j : Nat) (h : j < 32) : (ar n k)[j]? = some (D.int .u8 (if 32 ≤ j + k then xb n (31 - j) else 0)) := by
  unfold ar; rw [List.getElem?_map, List.getElem?_range h]; first | done | rfl
theorem ar_put (n k : Nat) (hk : k < 32) : splice (31 - k) [D.int .u8 (xb n k)] (ar n k) = some (ar n (k + 1)) := by
  have hl := ar_len n k
  unfold splice
  rw [Nat.ble_eq_true_of_le (by rw [hl]; show 31 - k + 1 ≤ 32; omega), cond_true]
  congr 1
  apply List.ext_getElem?
  intro j
  rcases Nat.lt_or_ge j 32 with hj | hj
  · rw [ar_get n (k + 1) j hj, List.append_assoc, List.getElem?_append]
    have htl : ((ar n k).take (31 - k)).length = 31 - k := by rw [List.length_take, hl]; omega
    rw [htl]
    by_cases h1 : j < 31 - k
    · rw [if_pos h1, List.getElem?_take, if_pos h1, ar_get n k j hj, if_neg (by omega), if_neg (by omega)]
    · rw [if_neg h1]
      by_cases h2 : j = 31 - k
      · subst h2
        rw [Nat.sub_self, if_pos (by omega), show 31 - (31 - k) = k from by omega]; rfl
      · rw [List.getElem?_append_right (by simp; omega), List.getElem?_drop, if_pos (by omega)]
        simp only [List.length_cons, List.length_nil]
        rw [show 31 - k + (0 + 1) + (j - (31 - k) - (0 + 1)) = j from by omega, ar_get n k j hj, if_pos (by omega)]
  · rw [List.getElem?_eq_none (by simp [hl]; omega), List.getElem?_eq_none (by rw [ar_len]; exact hj)]
theorem ud_cut (n q : Nat) (h : q < 4) : cut ⟨false, 1, [.int .u64 0]⟩ (0 + ((q : Nat) : Int).toNat * 1) (ud n) = some (.int .u64 (lim n q)) := by
  obtain rfl | rfl | rfl | rfl : q = 0 ∨ q = 1 ∨ q = 2 ∨ q = 3 := by omega
  all_goals rfl
theorem quo8 (k : Nat) (hk : k < 32) : IntKind.i64.wrap ((k : Int).tdiv 8) = ((k / 8 : Nat) : Int) := by
  rw [Int.tdiv_eq_ediv_of_nonneg (by omega), i64_in _ (by omega)]; omega
theorem rem8 (k : Nat) : (k : Int).tmod 8 = ((k % 8 : Nat) : Int) := by
  rw [Int.tmod_eq_emod_of_nonneg (by omega)]; omega
theorem mul8 (r : Nat) (hr : r < 8) : IntKind.i64.wrap (8 * ((r : Nat) : Int)) = ((8 * r : Nat) : Int) := by
  rw [i64_in _ (by omega)]; omega
set_option maxHeartbeats 16000000 in
theorem Bytes_ok (n : Nat) : Pur Tryz.prog 87 [U n] (.agg (bs (b32 n))) := by
  rw [← ar_end]
  refine pur_intro Tryz.func87 rfl Tryz.ntmps87 rfl (by first | rfl | assumption | exact bs_cl _) fun B => ?_
  refine zR ?_
  refine W_loop (fun n' ρ m nx => ∃ k : Nat, k ≤ 32 ∧ n' = 32 - k ∧ ρ = [(5, .int .i64 (k : Int)), (3, .ptr 2 0), (2, .ptr 1 0), (1, .ptr 0 0)] ∧ m = [(2, some (.var 48 (ar n k))), (1, some (.var 48 (ar 0 0))), (0, some (.var 27 (ud n)))] ∧ nx = 3)
    ⟨_, _, _, _, (by exact zs), (by exact zm), 0, by decide, rfl, rfl, rfl, rfl⟩ ?_
  rintro n' ρ m nx ⟨k, hk, rfl, rfl, rfl, rfl⟩
  by_cases hlt : k < 32
  · have hq := quo8 k hlt
    have hr := rem8 k
    have hm := mul8 (k % 8) (by omega)
    have hb := lim_byte n (k / 8) (k % 8) (by omega)
    rw [show 8 * (k / 8) + k % 8 = k from by omega] at hb
    have hsh : (lim n (k / 8)).fdiv (2 ^ (min ((8 * (k % 8) : Nat) : Int).toNat IntKind.u64.bits)) = (lim n (k / 8)).fdiv (2 ^ (8 * (k % 8))) := by
      rw [Int.toNat_natCast]
      have : min (8 * (k % 8)) IntKind.u64.bits = 8 * (k % 8) := Nat.min_eq_left (by show _ ≤ 64; omega)
      rw [this]
    have hcut := ud_cut n (k / 8) (by omega)
    have hput := ar_put n k hlt
    have hoff : 0 + ((31 : Int) - (k : Int)).toNat * 1 = 31 - k := by omega
    generalize (lim n (k / 8)).fdiv (2 ^ (8 * (k % 8))) = V at *
    have hqb : k / 8 < 4 := by omega
    generalize k / 8 = q at *
    generalize k % 8 = r at *
    have hsp : splice (0 + ((31 : Int) - (k : Int)).toNat * 1) [D.int .u8 (xb n k)] (ar n k) = some (ar n (k + 1)) := by rw [hoff]; exact hput
    repeat (first | refine zC ?_ | refine zA ?_ | (refine k_quo rfl rfl rfl ?_ hq ?_; (decide)) | (refine k_rem rfl rfl rfl ?_ hr ?_; (decide)) | refine k_mul rfl rfl rfl hm ?_ | refine k_load rfl rfl rfl (by exact hcut) ?_ | (refine k_shr rfl rfl rfl ?_ hsh ?_; (omega)) | refine k_conv rfl rfl hb ?_ | refine k_store rfl rfl rfl rfl rfl rfl (by exact hsp) ?_ | refine zB ?_)
    exact ⟨32 - (k + 1), _, _, _, (by exact zs), (by exact zm), by omega, k + 1, by omega, rfl, rfl, rfl, rfl⟩
  · have ek : k = 32 := by omega
    subst ek
    repeat (first | refine zC ?_ | refine zA ?_ | refine zB ?_)
    (first | with_reducible refine q_endr ?_); refine rets1 Tryz.results87 (by exact zv) ?_
    rfl
end Go.Proofs.YtcfefmbbbfdppaaGreatDoor
