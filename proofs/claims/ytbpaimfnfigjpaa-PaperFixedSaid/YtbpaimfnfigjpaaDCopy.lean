/- copy into an array's slice; the string of one. Of any program. No conditions. -/
import Derived.Test.YtbpaimfnfigjpaaDConv
namespace Go.Proofs.Ytbpaimfnfigjpaa
open Go.RowKit Go.Lib
set_option linter.unusedVariables false

section
variable {P : Program} {o : Oper} {ρ : Slots} {m : Mem}
theorem r_b2sm {S T E : TypeId} [ha : HasSl P S E] {x : Operand} {l off n : Nat} {T' : TypeId} {cs : List D} {z : List UInt8} (hT : P.underlying T = some .string) (hE : P.underlying E = some (.int .u8)) (ho : o.op = .convert S T x) (hx : oev ρ x = some (.ms l off n)) (hm : mget m l = some (.var T' cs)) (hz : (cs.drop off).take n = bs z) (hn : z.length = n) : OpSound P o ⟨.str ⟨z.toArray⟩, [l], [], []⟩ ρ m := by
  refine sound_val fun B G a w m' hs h hrd => ?_
  obtain ⟨vs, hv, hr, h1⟩ := hs.at_ ((hrd l (by simp)).trans hm)
  have hp := h x (by simp [ho, Op.operands]) _ hx
  generalize hev : a.eval x = vx at hp
  refine ⟨.string ⟨z.toArray⟩, ?_, .str _⟩
  cases hp with
  | ms _ _ _ cap hk hn' =>
    subst hn
    have hc : ∀ j (hj : j < z.length), w.cell? ((⟨G.g l, off, none⟩ : Addr).add j) = some (.int .u8 (z[j].toNat : Int)) := fun j hj => by
      rw [add_off, cell_of_row w _ _ vs T' (0, 0) hv]
      have hd : cs[off + j]? = some (.int .u8 (z[j].toNat : Int)) := by
        have := bs_get z j _ (List.getElem?_eq_getElem hj)
        rw [← hz, List.getElem?_take, if_pos hj, List.getElem?_drop] at this
        exact this
      have hlt := (List.getElem?_eq_some_iff.1 hd).1
      have hvj : vs[off + j]? = some (vs[off + j]'(by rw [hr.1]; exact hlt)) := Array.getElem?_eq_getElem _
      have hq := hr.2 _ _ _ hd hvj
      rw [hvj]
      generalize vs[off + j]'(by rw [hr.1]; exact hlt) = u at hq
      cases hq; rfl
    have hrun := run_convert_bytes_back (P := P) w S T E ⟨G.g l, off, none⟩ cap z ha.sl hE hT hc
    simp only [execOp, ho, hev, Sem.run_bind, hrun, Result.andThen_ok, Sem.run_pure]

/-- copy, where the source's first bytes are known -/
theorem copy_core {dT sT E : TypeId} {ty : Ty} [ha : HasSl P dT E] [ht : HasTy P E ty] {x y : Operand} {l off n k : Nat} {T' : TypeId} {cs cs' : List D} {z : List UInt8} (hsz : ty.size = 1) (ho : o.op = .call { callee := .builtin .copy, args := #[x, y], argTypes := #[dT, sT] }) (hx : oev ρ x = some (.ms l off n)) (hm : mget m l = some (.var T' cs)) (hz : z.length = k) (hsp : splice off (bs z) cs = some cs')
    (hsrc : ∀ (G : Gh) (w : World) (a : Act), (∀ x ∈ o.op.operands, ∀ d, oev ρ x = some d → Rep G w d (a.eval x)) → ∃ sl, (Builtin.lenOf (a.eval y)).run P w = .ok sl w ∧ Nat.min sl n = k ∧ (Builtin.firstCells 1 k (a.eval y)).run P w = .ok ((z.map fun b => Value.int .u8 b.toNat).toArray) w) : OpSound P o ⟨.int .i64 k, [], [(l, some (.var T' cs'))], []⟩ ρ m := by
  intro B G a w m' K Q hs h hag hn hK
  have hml : mget m' l = some (.var T' cs) := (hag l (by unfold Eff.touch Eff.writes; simp)).trans hm
  obtain ⟨vs, hv, hr, h1'⟩ := hs.at_ hml
  have hp := h x (by simp [ho, Op.operands, Call.operands]) _ hx
  generalize hev : a.eval x = vx at hp
  cases hp with
  | ms _ _ _ cap hk hn' =>
    obtain ⟨sl, e1, e2, e3⟩ := hsrc G w a h
    have hc1 : Reps G w (bs z) (z.map fun b => Value.int .u8 b.toNat).toArray := by
      refine ⟨by simp [bs_len], fun i d v hd hv => ?_⟩
      unfold bs at hd
      rw [List.getElem?_map] at hd
      obtain ⟨b, hb, rfl⟩ := Option.map_eq_some_iff.1 hd
      simp [hb] at hv
      subst hv
      exact .int _ _
    have hc2 : ∀ d ∈ bs z, d.one = true := fun d hd => by
      obtain ⟨b, _, rfl⟩ := List.mem_map.1 hd; rfl
    obtain ⟨hle, hr', h1''⟩ := hr.splice hc1 h1' hc2 hsp
    obtain ⟨i, hi, hsi⟩ := Option.map_eq_some_iff.1 ht.size
    rw [hsz] at hsi
    have hone : ∀ v ∈ (z.map fun b => Value.int .u8 b.toNat), v.oneCell' = true := fun v hv => by
      obtain ⟨b, _, rfl⟩ := List.mem_map.1 hv; rfl
    have hst := run_storeCells_at (P := P) (G.g l) off T' (z.map fun b => Value.int .u8 b.toNat) 0 vs w hv (by simp at hle; simp; omega) hone
    simp only [Nat.add_zero, List.length_map] at hst
    have hrun : (execOp a.eval o).run P w = .ok (.value (.int .i64 k)) (w.setRow (G.g l) (vs.toList.take off ++ (z.map fun b => Value.int .u8 b.toNat) ++ vs.toList.drop (off + z.length)).toArray) := by
      unfold execOp
      simp only [ho, resolve, invoke, builtin, Sem.run_bind, Sem.run_pure, Result.andThen_ok, List.map_toArray, List.map_cons, List.map_nil, hev]
      simp [Builtin.copy_, Sem.run_bind, run_underlying ha.sl, e1, e2, sizeOf, typeInfo, hi, hsi, e3, hst, goInt, Result.andThen]
    unfold Oper.wp
    rw [hrun, Oper.upon_value]
    have hg : w.grownBy (w.setRow (G.g l) (vs.toList.take off ++ (z.map fun b => Value.int .u8 b.toNat) ++ vs.toList.drop (off + z.length)).toArray) (some (G.g l)) := by
      refine ⟨rfl, rfl, rfl, by simp [World.setRow], fun i hi hne => ?_⟩
      have : ¬ G.g l = i := fun h => hne (by rw [h])
      simp [World.setRow, Array.getElem?_modify, this]
    have hr2 : Reps G w cs' (vs.toList.take off ++ (z.map fun b => Value.int .u8 b.toNat) ++ vs.toList.drop (off + z.length)).toArray := by
      have := hr'; simpa using this
    obtain ⟨hx', hs'⟩ := hs.write hml hg (setRow_heap w _ vs _ T' (0, 0) hv) hr2 h1''
    exact hK _ _ G hx' hs' (.int _ _) fun l hl => .inl hl
theorem r_copys {dT sT E : TypeId} {ty : Ty} [HasSl P dT E] [HasTy P E ty] {x y : Operand} {l off n k : Nat} {T' : TypeId} {cs cs' : List D} {s : ByteArray} {z : List UInt8} (hsz : ty.size = 1) (ho : o.op = .call { callee := .builtin .copy, args := #[x, y], argTypes := #[dT, sT] }) (hx : oev ρ x = some (.ms l off n)) (hy : oev ρ y = some (.str s)) (hm : mget m l = some (.var T' cs)) (hk : Nat.min s.size n = k) (hz : s.data.toList.take k = z) (hsp : splice off (bs z) cs = some cs') : OpSound P o ⟨.int .i64 k, [], [(l, some (.var T' cs'))], []⟩ ρ m := by
  have hsl : s.data.toList.length = s.size := by rw [Array.length_toList]; rfl
  have hzl : z.length = k := by
    have : k ≤ s.size := by rw [← hk]; exact Nat.min_le_left _ _
    rw [← hz, List.length_take]; omega
  refine copy_core hsz ho hx hm hzl hsp fun G w a h => ?_
  have hq := h y (by simp [ho, Op.operands, Call.operands]) _ hy
  generalize a.eval y = vy at hq
  cases hq
  refine ⟨s.size, rfl, hk, ?_⟩
  simp only [Builtin.firstCells, Sem.run_pure]
  congr 1
  apply Array.ext'
  rw [Array.toList_map, ByteArray.data_extract, Array.toList_extract]
  simp only [List.extract_eq_take_drop, List.drop_zero, Nat.sub_zero]
  show List.map _ (s.data.toList.take k) = _
  rw [hz]
end
section
variable {P : Program} {ρ : Slots} {m : Mem} {nx : Nat} {ops : Array Oper} {os : List Oper} {K : List Eff → Slots → Mem → Nat → Prop}
theorem k_b2sm {t : Tmp} {S T E : TypeId} [HasSl P S E] {x : Operand} {l off n : Nat} {T' : TypeId} {cs : List D} {z : List UInt8} {V : TypeId} {pos : String} {af : Array Edge} {gd : Option (Nat × Bool)} (hg : gok ops ρ ⟨some t, .convert S T x, V, pos, af, gd⟩ = some true) (hT : P.underlying T = some .string) (hE : P.underlying E = some (.int .u8)) (hx : oev ρ x = some (.ms l off n)) (hm : mget m l = some (.var T' cs)) (hz : (cs.drop off).take n = bs z) (hn : z.length = n)
    (hh : R P ops os (fun Es => K (⟨.str ⟨z.toArray⟩, [l], [], []⟩ :: Es)) ((t, .str ⟨z.toArray⟩) :: ρ) m nx) : R P ops (⟨some t, .convert S T x, V, pos, af, gd⟩ :: os) K ρ m nx := R_cons hg (r_b2sm hT hE rfl hx hm hz hn) rfl hh
theorem k_copys {t : Tmp} {dT sT E : TypeId} {ty : Ty} [HasSl P dT E] [HasTy P E ty] {x y : Operand} {l off n k : Nat} {T' : TypeId} {cs cs' : List D} {s : ByteArray} {z : List UInt8} {V : TypeId} {pos : String} {af : Array Edge} {gd : Option (Nat × Bool)} (hg : gok ops ρ ⟨some t, .call { callee := .builtin .copy, args := #[x, y], argTypes := #[dT, sT] }, V, pos, af, gd⟩ = some true) (hsz : ty.size = 1) (hx : oev ρ x = some (.ms l off n)) (hy : oev ρ y = some (.str s)) (hm : mget m l = some (.var T' cs)) (hk : Nat.min s.size n = k) (hz : s.data.toList.take k = z) (hsp : splice off (bs z) cs = some cs')
    (hh : R P ops os (fun Es => K (⟨.int .i64 k, [], [(l, some (.var T' cs'))], []⟩ :: Es)) ((t, .int .i64 k) :: ρ) ((l, some (.var T' cs')) :: m) nx) : R P ops (⟨some t, .call { callee := .builtin .copy, args := #[x, y], argTypes := #[dT, sT] }, V, pos, af, gd⟩ :: os) K ρ m nx := R_cons hg (r_copys hsz rfl hx hy hm hk hz hsp) rfl hh
end
end Go.Proofs.Ytbpaimfnfigjpaa
