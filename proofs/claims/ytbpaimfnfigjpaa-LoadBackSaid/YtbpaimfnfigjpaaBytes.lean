/- Bytes as data; bytes.Compare. No conditions. -/
import Derived.Test.YtbpaimfnfigjpaaDMs
import Derived.Test.YtbpaimfnfigjpaaDInst
import Derived.Test.YtbpaimfnfigjpaaDPart
import Derived.Lib.BytesEntry
namespace Go.Proofs.Ytbpaimfnfigjpaa
open Go.RowKit Go.Lib
set_option linter.unusedVariables false

/-- bytes -/
def bs (l : List UInt8) : List D := l.map fun x => .int .u8 (x.toNat : Int)
theorem bs_len (l : List UInt8) : (bs l).length = l.length := by simp [bs]
theorem bs_cl (l : List UInt8) : D.cls (bs l) = true := D.cls_of fun d hd => by
  obtain ⟨x, _, rfl⟩ := List.mem_map.1 hd
  rfl

section
variable {P : Program}
theorem Rep.bytes {G : Gh} {w : World} {tk : Tok} {n : Nat} {l : List UInt8} {v : Value} (h : Rep G w (.slice tk n (bs l)) v) (hn : n = l.length) : (Extern.Bytes.bytesOf v).run P w = .ok ⟨l.toArray⟩ w := by
  generalize hcs : bs l = cs at h
  cases h with
  | nil tk =>
    have : l = [] := by cases l with | nil => rfl | cons a l => simp [bs] at hcs
    subst this
    rfl
  | slice tk n cs b o cap vs hl h1 hh hhw hc hb hn' htk =>
    subst hcs
    subst hn
    have hcell : ∀ j x, l[j]? = some x → w.cell? ((⟨b, o, none⟩ : Addr).add j) = some (.int .u8 x.toNat) := fun j x hx => by
      have hlt := (List.getElem?_eq_some_iff.1 hx).1
      have hd : (bs l)[j]? = some (.int .u8 (x.toNat : Int)) := by simp [bs, hx]
      have hv : vs[j]? = some (vs[j]'(by rw [hl, bs_len]; exact hlt)) := Array.getElem?_eq_getElem _
      have hr := hh j _ _ hd hv
      rw [add_off, hc j (by rw [bs_len]; exact hlt), hv]
      generalize vs[j]'(by rw [hl, bs_len]; exact hlt) = u at hr
      cases hr; rfl
    have := Lib.run_loadBytesX (P := P) w (l.map fun x => (x.toNat : Int)) ⟨b, o, none⟩ .empty (fun j x hx => by
      rw [List.getElem?_map] at hx
      obtain ⟨y, hy, rfl⟩ := Option.map_eq_some_iff.1 hx
      exact hcell j y hy)
    rw [List.length_map] at this
    have e : Lib.bytesOf (l.map fun x => (x.toNat : Int)) = l := by
      unfold Lib.bytesOf
      rw [List.map_map]
      conv => rhs; rw [← List.map_id l]
      apply List.map_congr_left
      intro x _
      simp
    rw [e] at this
    show (Extern.Bytes.loadBytes ⟨b, o, none⟩ l.length .empty).run P w = _
    rw [this]
    simp

/-- the entry that compares -/
class HasCmp (P : Program) (F : FuncId) : Prop where
  fn : ∃ fn, P.funcs[F]? = some fn ∧ (fn.name == "runtime.NumGoroutine") = false ∧ fn.body.isNone = true ∧ Extern.findNext fn = none ∧ Extern.find fn = some Extern.BytealgCompare.compare

variable {o : Oper} {ρ : Slots} {m : Mem}
theorem r_cmpx {F : FuncId} [hf : HasCmp P F] {x y : Operand} {ts : Array TypeId} {tk tk2 : Tok} {n n2 : Nat} {l l2 : List UInt8} {c : Int} (ho : o.op = .call { callee := .value (.func F), args := #[x, y], argTypes := ts }) (hx : oev ρ x = some (.slice tk n (bs l))) (hy : oev ρ y = some (.slice tk2 n2 (bs l2))) (hn : n = l.length) (hn2 : n2 = l2.length) (hc : compareBytes l l2 = c) : OpSound P o (Eff.val (.int .i64 c)) ρ m := by
  subst hc
  obtain ⟨fn, h1, h2, h3, h4, h5⟩ := hf.fn
  refine sound_val fun B G a w m' hs h _ => ⟨.int .i64 (compareBytes l l2), ?_, .int _ _⟩
  have hpx := (h x (by simp [ho, Op.operands, Call.operands]) _ hx).bytes (P := P) hn
  have hpy := (h y (by simp [ho, Op.operands, Call.operands]) _ hy).bytes (P := P) hn2
  have e : a.eval (.func F) = .func (.func F) #[] #[] := rfl
  unfold execOp
  simp only [ho, resolve, e, Deferred.ofValue, Sem.run_bind, Sem.run_pure, Result.andThen_ok, invoke, List.map_toArray, List.map_cons, List.map_nil]
  have hrun := run_callFunc_extern h1 h2 h3 h4 h5 #[a.eval x, a.eval y] w
  have hcmp : (Extern.BytealgCompare.compare #[a.eval x, a.eval y]).run P w = .ok (.int .i64 (compareBytes l l2)) w := by
    change Sem.run P (do pure (goInt (Extern.BytealgCompare.cmp (← Extern.Bytes.bytesOf (a.eval x)) (← Extern.Bytes.bytesOf (a.eval y))))) w = _
    simp only [Sem.run_bind, hpx, hpy, Sem.run_pure, Result.andThen_ok]
    rw [cmp_eq]
    simp [goInt]
  rw [hcmp] at hrun
  simp only [Result.andThen_ok] at hrun
  simpa using hrun
end

section
variable {P : Program} {ρ : Slots} {m : Mem} {nx : Nat} {ops : Array Oper} {os : List Oper} {K : List Eff → Slots → Mem → Nat → Prop}
theorem k_cmpx {t : Tmp} {F : FuncId} [HasCmp P F] {x y : Operand} {ts : Array TypeId} {tk tk2 : Tok} {n n2 : Nat} {l l2 : List UInt8} {c : Int} {V : TypeId} {pos : String} {af : Array Edge} {gd : Option (Nat × Bool)} (hg : gok ops ρ ⟨some t, .call { callee := .value (.func F), args := #[x, y], argTypes := ts }, V, pos, af, gd⟩ = some true)
    (hx : oev ρ x = some (.slice tk n (bs l))) (hy : oev ρ y = some (.slice tk2 n2 (bs l2))) (hn : n = l.length) (hn2 : n2 = l2.length) (hc : compareBytes l l2 = c)
    (hh : R P ops os (fun Es => K (Eff.val (.int .i64 c) :: Es)) ((t, .int .i64 c) :: ρ) m nx) : R P ops (⟨some t, .call { callee := .value (.func F), args := #[x, y], argTypes := ts }, V, pos, af, gd⟩ :: os) K ρ m nx :=
  R_cons hg (r_cmpx rfl hx hy hn hn2 hc) rfl hh
end
end Go.Proofs.Ytbpaimfnfigjpaa
