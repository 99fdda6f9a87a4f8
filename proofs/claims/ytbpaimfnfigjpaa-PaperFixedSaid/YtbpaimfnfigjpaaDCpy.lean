/- copy of a slice's bytes into an array's slice. Of any program. No conditions. -/
import Derived.Test.YtbpaimfnfigjpaaDCopy
namespace Go.Proofs.Ytbpaimfnfigjpaa
open Go.RowKit Go.Lib
set_option linter.unusedVariables false

section
variable {P : Program} {o : Oper} {ρ : Slots} {m : Mem}
theorem r_copyd {dT sT E : TypeId} {ty : Ty} [HasSl P dT E] [HasTy P E ty] {x y : Operand} {l off n k n2 : Nat} {tk : Tok} {T' : TypeId} {cs cs' cs2 : List D} {z : List UInt8} (hsz : ty.size = 1) (ho : o.op = .call { callee := .builtin .copy, args := #[x, y], argTypes := #[dT, sT] }) (hx : oev ρ x = some (.ms l off n)) (hy : oev ρ y = some (.slice tk n2 cs2)) (hm : mget m l = some (.var T' cs)) (hk : Nat.min n2 n = k) (hz : cs2.take k = bs z) (hzl : z.length = k) (hsp : splice off (bs z) cs = some cs') : OpSound P o ⟨.int .i64 k, [], [(l, some (.var T' cs'))], []⟩ ρ m := by
  refine copy_core hsz ho hx hm hzl hsp fun G w a h => ?_
  have hq := h y (by simp [ho, Op.operands, Call.operands]) _ hy
  generalize a.eval y = vy at hq
  cases hq with
  | nil tk =>
    have hk0 : k = 0 := by rw [← hk]; exact Nat.eq_zero_of_le_zero (Nat.min_le_left _ _)
    subst hk0
    have : z = [] := List.length_eq_zero_iff.1 hzl
    subst this
    exact ⟨0, rfl, hk, by simp [Builtin.firstCells]⟩
  | slice tk n cs b o' cap vs hl' h1 hh hhw hc hb' hn ht' =>
    refine ⟨n2, rfl, hk, ?_⟩
    have hr := run_firstCells_some (P := P) w 1 k ⟨b, o', none⟩ n2 cap (z.map fun b => Value.int .u8 b.toNat) (by simp [hzl]) (fun j v hj => by
      rw [List.getElem?_map] at hj
      obtain ⟨c, hcj, rfl⟩ := Option.map_eq_some_iff.1 hj
      have hd : (cs2.take k)[j]? = some (.int .u8 (c.toNat : Int)) := by rw [hz]; exact bs_get z j _ hcj
      have hjk : j < k := by rw [← hzl]; exact (List.getElem?_eq_some_iff.1 hcj).1
      rw [List.getElem?_take, if_pos hjk] at hd
      have hlt := (List.getElem?_eq_some_iff.1 hd).1
      rw [add_off, hc j hlt]
      have hvj : vs[j]? = some (vs[j]'(by omega)) := Array.getElem?_eq_getElem _
      have hq := hh j _ _ hd hvj
      rw [hvj]
      generalize vs[j]'(by omega) = u at hq
      cases hq; rfl)
    rw [hr]
end
section
variable {P : Program} {ρ : Slots} {m : Mem} {nx : Nat} {ops : Array Oper} {os : List Oper} {K : List Eff → Slots → Mem → Nat → Prop}
theorem k_copyd {t : Tmp} {dT sT E : TypeId} {ty : Ty} [HasSl P dT E] [HasTy P E ty] {x y : Operand} {l off n k n2 : Nat} {tk : Tok} {T' : TypeId} {cs cs' cs2 : List D} {z : List UInt8} {V : TypeId} {pos : String} {af : Array Edge} {gd : Option (Nat × Bool)} (hg : gok ops ρ ⟨some t, .call { callee := .builtin .copy, args := #[x, y], argTypes := #[dT, sT] }, V, pos, af, gd⟩ = some true) (hsz : ty.size = 1) (hx : oev ρ x = some (.ms l off n)) (hy : oev ρ y = some (.slice tk n2 cs2)) (hm : mget m l = some (.var T' cs)) (hk : Nat.min n2 n = k) (hz : cs2.take k = bs z) (hzl : z.length = k) (hsp : splice off (bs z) cs = some cs')
    (hh : R P ops os (fun Es => K (⟨.int .i64 k, [], [(l, some (.var T' cs'))], []⟩ :: Es)) ((t, .int .i64 k) :: ρ) ((l, some (.var T' cs')) :: m) nx) : R P ops (⟨some t, .call { callee := .builtin .copy, args := #[x, y], argTypes := #[dT, sT] }, V, pos, af, gd⟩ :: os) K ρ m nx := R_cons hg (r_copyd hsz rfl hx hy hm hk hz hzl hsp) rfl hh
end
end Go.Proofs.Ytbpaimfnfigjpaa
