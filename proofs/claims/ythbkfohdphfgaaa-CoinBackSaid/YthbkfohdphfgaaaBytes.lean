/- Bytes as data; bytes.Compare. No conditions. -/
import Derived.Test.YthbkfohdphfgaaaDMs
import Derived.Test.YthbkfohdphfgaaaDInst
import Derived.Test.YthbkfohdphfgaaaDPart
import Derived.Lib.BytesEntry
namespace Go.Proofs.Ythbkfohdphfgaaa
open Go.RowKit Go.Lib
set_option linter.unusedVariables false

/-- bytes -/
def bs (l : List UInt8) : List D := l.map fun x => .int .u8 (x.toNat : Int)
theorem bs_len (l : List UInt8) : (bs l).length = l.length := by simp [bs]
theorem bs_cl (l : List UInt8) : D.cls (bs l) = true := D.cls_of fun d hd => by
  obtain ⟨x, _, rfl⟩ := List.mem_map.1 hd
  rfl

section
variable {P : Program}
theorem Rep.bytes {G : Gh} {w : World} {tk : Tok} {n : Nat} {l : List UInt8} {v : Value} (h : Rep G w (.slice tk n (bs l)) v) (hn : n = l.length) : (Extern.Bytes.bytesOf v).run P w = .ok ⟨l.toArray⟩ w := by
  generalize hcs : bs l = cs at h
  cases h with
  | nil tk =>
    have : l = [] := by cases l with | nil => rfl | cons a l => simp [bs] at hcs
    subst this
    rfl
  | slice tk n cs b o cap vs hl h1 hh hhw hc hb hn' htk =>
    subst hcs
    subst hn
    have hcell : ∀ j x, l[j]? = some x → w.cell? ((⟨b, o, none⟩ : Addr).add j) = some (.int .u8 x.toNat) := fun j x hx => by
      have hlt := (List.getElem?_eq_some_iff.1 hx).1
      have hd : (bs l)[j]? = some (.int .u8 (x.toNat : Int)) := by simp [bs, hx]
      have hv : vs[j]? = some (vs[j]'(by rw [hl, bs_len]; exact hlt)) := Array.getElem?_eq_getElem _
      have hr := hh j _ _ hd hv
      rw [add_off, hc j (by rw [bs_len]; exact hlt), hv]
      generalize vs[j]'(by rw [hl, bs_len]; exact hlt) = u at hr
      cases hr; rfl
    have := Lib.run_loadBytesX (P := P) w (l.map fun x => (x.toNat : Int)) ⟨b, o, none⟩ .empty (fun j x hx => by
      rw [List.getElem?_map] at hx
      obtain ⟨y, hy, rfl⟩ := Option.map_eq_some_iff.1 hx
      exact hcell j y hy)
    rw [List.length_map] at this
    have e : Lib.bytesOf (l.map fun x => (x.toNat : Int)) = l := by
      unfold Lib.bytesOf
      rw [List.map_map]
      conv => rhs; rw [← List.map_id l]
      apply List.map_congr_left
      intro x _
      simp
    rw [e] at this
    show (Extern.Bytes.loadBytes ⟨b, o, none⟩ l.length .empty).run P w = _
    rw [this]
    simp

/-- the entry that compares -/
class HasCmp (P : Program) (F : FuncId) : Prop where
  fn : ∃ fn, P.funcs[F]? = some fn ∧ (fn.name == "runtime.NumGoroutine") = false ∧ fn.body.isNone = true ∧ Extern.findNext fn = none ∧ Extern.find fn = some Extern.BytealgCompare.compare

variable {o : Oper} {ρ : Slots} {m : Mem}
theorem r_cmpx {F : FuncId} [hf : HasCmp P F] {x y : Operand} {ts : Array TypeId} {tk tk2 : Tok} {n n2 : Nat} {l l2 : List UInt8} {c : Int} (ho : o.op = .call { callee := .value (.func F), args := #[x, y], argTypes := ts }) (hx : oev ρ x = some (.slice tk n (bs l))) (hy : oev ρ y = some (.slice tk2 n2 (bs l2))) (hn : n = l.length) (hn2 : n2 = l2.length) (hc : compareBytes l l2 = c) : OpSound P o (Eff.val (.int .i64 c)) ρ m := by
  subst hc
  obtain ⟨fn, h1, h2, h3, h4, h5⟩ := hf.fn
  refine sound_val fun B G a w m' hs h _ => ⟨.int .i64 (compareBytes l l2), ?_, .int _ _⟩
  have hpx := (h x (by simp [ho, Op.operands, Call.operands]) _ hx).bytes (P := P) hn
  have hpy := (h y (by simp [ho, Op.operands, Call.operands]) _ hy).bytes (P := P) hn2
  have e : a.eval (.func F) = .func (.func F) #[] #[] := rfl
  unfold execOp
  simp only [ho, resolve, e, Deferred.ofValue, Sem.run_bind, Sem.run_pure, Result.andThen_ok, invoke, List.map_toArray, List.map_cons, List.map_nil]
  have hrun := run_callFunc_extern h1 h2 h3 h4 h5 #[a.eval x, a.eval y] w
  have hcmp : (Extern.BytealgCompare.compare #[a.eval x, a.eval y]).run P w = .ok (.int .i64 (compareBytes l l2)) w := by
    change Sem.run P (do pure (goInt (Extern.BytealgCompare.cmp (← Extern.Bytes.bytesOf (a.eval x)) (← Extern.Bytes.bytesOf (a.eval y))))) w = _
    simp only [Sem.run_bind, hpx, hpy, Sem.run_pure, Result.andThen_ok]
    rw [cmp_eq]
    simp [goInt]
  rw [hcmp] at hrun
  simp only [Result.andThen_ok] at hrun
  simpa using hrun
end

section
variable {P : Program} {ρ : Slots} {m : Mem} {nx : Nat} {ops : Array Oper} {os : List Oper} {K : List Eff → Slots → Mem → Nat → Prop}
theorem k_cmpx {t : Tmp} {F : FuncId} [HasCmp P F] {x y : Operand} {ts : Array TypeId} {tk tk2 : Tok} {n n2 : Nat} {l l2 : List UInt8} {c : Int} {V : TypeId} {pos : String} {af : Array Edge} {gd : Option (Nat × Bool)} (hg : gok ops ρ ⟨some t, .call { callee := .value (.func F), args := #[x, y], argTypes := ts }, V, pos, af, gd⟩ = some true)
    (hx : oev ρ x = some (.slice tk n (bs l))) (hy : oev ρ y = some (.slice tk2 n2 (bs l2))) (hn : n = l.length) (hn2 : n2 = l2.length) (hc : compareBytes l l2 = c)
    (hh : R P ops os (fun Es => K (Eff.val (.int .i64 c) :: Es)) ((t, .int .i64 c) :: ρ) m nx) : R P ops (⟨some t, .call { callee := .value (.func F), args := #[x, y], argTypes := ts }, V, pos, af, gd⟩ :: os) K ρ m nx :=
  R_cons hg (r_cmpx rfl hx hy hn hn2 hc) rfl hh
end
instance : HasCmp Try.prog 27 := ⟨⟨_, Try.func27, by kernel_rfl, by kernel_rfl, by kernel_rfl, by kernel_rfl⟩⟩
theorem Compare_ok (l l2 : List UInt8) (c : Int) (hc : compareBytes l l2 = c) (n n2 : Nat) (hn : n = l.length) (hn2 : n2 = l2.length) : Pur Try.prog 22 [.slice .frozen n (bs l), .slice .frozen n2 (bs l2)] (.int .i64 c) := by
  refine pur_intro Try.func22 rfl Try.ntmps22 rfl rfl fun B => ?_
  repeat (first | with_reducible refine W_seq ?_ | with_reducible refine q_then ?_ | with_reducible refine q_thenr ?_ | with_reducible refine q_thenx ?_ | with_reducible refine W_block ?_ | with_reducible refine q_block ?_ | with_reducible refine q_blockr ?_ | with_reducible refine q_blockx ?_ | with_reducible refine W_ret ?_ | with_reducible refine W_skip ?_ | with_reducible refine W_label ?_ | with_reducible refine W_exit ?_ | (with_reducible refine R_nil ?_; try dsimp only [slots0, slots_ud, cells_U, agg_ud, drop0, dropS, takeS, take0, ud_nil, take_ud, take_ud0, drop_ud, drop_ud0, take_udk, D.cells, D.fz, D.fzs, List.take_succ_cons, List.take_zero, List.drop_succ_cons, List.drop_zero, List.cons_append, List.nil_append, List.append_eq, List.length_cons, List.length_nil, Nat.reduceAdd, Nat.reduceMul, Nat.reduceSub, Int.reduceAdd, Int.reduceSub, Int.reduceToNat, Int.reduceNeg, Int.reduceMul]) | refine q_blocky rfl ?_ | refine W_plain rfl ?_ | refine W_drawn mixed rfl ?_ | refine and_chk (by kernel_rfl) ?_ | refine k_move rfl rfl ?_ | refine k_assign rfl rfl ?_ | refine k_load rfl rfl rfl rfl ?_ | refine k_alloc rfl ?_ | refine k_box rfl rfl rfl ?_ | refine k_store rfl rfl rfl rfl rfl rfl rfl ?_ | refine k_extract rfl rfl rfl ?_ | refine k_fieldAddr rfl rfl rfl ?_ | refine k_field rfl rfl rfl ?_ | refine k_build rfl rfl rfl ?_ | refine k_cmpx rfl rfl rfl hn hn2 hc ?_ | refine k_buildSlice rfl rfl rfl rfl rfl rfl rfl ?_ | refine k_indexAddr rfl rfl rfl ⟨by omega, by omega⟩ ?_ | refine k_indexAddrs rfl rfl rfl ⟨by omega, by omega⟩ rfl ?_ | refine k_index rfl rfl rfl ⟨by omega, by omega⟩ rfl ?_ | refine k_loade rfl rfl rfl ?_ | refine k_fieldAddre rfl rfl rfl rfl ?_ | refine k_len rfl rfl ?_ | refine k_nilCheck rfl rfl rfl ?_ | refine k_pickT rfl rfl rfl ?_ | refine k_pickF rfl rfl rfl ?_ | refine k_addi rfl rfl rfl (by omega) ?_ | refine k_subi rfl rfl rfl (by omega) ?_ | refine k_negi rfl rfl (by omega) ?_ | refine k_not rfl rfl rfl ?_ | refine k_lssT rfl rfl rfl (by omega) ?_ | refine k_lssF rfl rfl rfl (by omega) ?_ | refine k_leqT rfl rfl rfl (by omega) ?_ | refine k_leqF rfl rfl rfl (by omega) ?_ | refine k_gtrT rfl rfl rfl (by omega) ?_ | refine k_gtrF rfl rfl rfl (by omega) ?_ | refine k_geqT rfl rfl rfl (by omega) ?_ | refine k_geqF rfl rfl rfl (by omega) ?_ | refine k_eqlT rfl rfl rfl (by omega) ?_ | refine k_eqlF rfl rfl rfl (by omega) ?_ | refine k_neqT rfl rfl rfl (by omega) ?_ | refine k_neqF rfl rfl rfl (by omega) ?_ | refine k_eqa rfl rfl rfl rfl rfl rfl ?_ | refine k_nea rfl rfl rfl rfl rfl rfl ?_ | refine k_makeFunc rfl rfl rfl ?_ | refine k_skip rfl ?_ | refine k_skip0 rfl ?_ | refine k_pick rfl rfl rfl rfl rfl ?_ | refine W_yes rfl ?_ | refine W_no rfl ?_)
  (first | with_reducible refine q_endr ?_ | with_reducible refine q_endn ?_); refine rets1 Try.results22 (by first | exact RetV.tmp _ _ rfl | exact RetV.cell _ _ _ _ _ _ _ _ inferInstance rfl rfl rfl) ?_
  rfl
end Go.Proofs.Ythbkfohdphfgaaa
