/- The rules for functions of data and memory, at the calls as they stand in a region. Of any program. No conditions. -/
import Derived.Test.YtnlacdclnhoghaaDFun
namespace Go.Proofs.Ytnlacdclnhoghaa
open Go.RowKit
set_option linter.unusedVariables false
set_option linter.unusedVariables false

def nodupB : List Nat → Bool
  | [] => true
  | x :: xs => !(xs.any (Nat.beq x)) && nodupB xs
theorem nodupB_nodup : ∀ {l : List Nat}, nodupB l = true → l.Nodup
  | [], _ => List.nodup_nil
  | x :: xs, h => by
    simp only [nodupB, Bool.and_eq_true, Bool.not_eq_true'] at h
    refine List.nodup_cons.2 ⟨fun hx => ?_, nodupB_nodup h.2⟩
    have := List.any_eq_false.1 h.1 x hx
    simp at this
/-- below k f turns nothing -/
def idB (f : Nat → Nat) : Nat → Bool
  | 0 => true
  | k + 1 => Nat.beq (f k) k && idB f k
theorem idB_id {f : Nat → Nat} : ∀ {k : Nat}, idB f k = true → ∀ l, l < k → f l = l
  | 0, _, l, h => by omega
  | k + 1, h, l, hl => by
    simp only [idB, Bool.and_eq_true] at h
    by_cases e : l = k
    · rw [e]; exact Nat.eq_of_beq_eq_true h.1
    · exact idB_id h.2 l (by omega)
def knB (ns : List Nat) (m0 : Mem) : Nat → Bool
  | 0 => true
  | k + 1 => (inns ns k && (mget m0 k).isSome) && knB ns m0 k
theorem knB_kn {ns : List Nat} {m0 : Mem} : ∀ {k : Nat}, knB ns m0 k = true → ∀ l, l < k → inns ns l = true ∧ (mget m0 l).isSome = true
  | 0, _, l, h => by omega
  | k + 1, h, l, hl => by
    simp only [knB, Bool.and_eq_true] at h
    by_cases e : l = k
    · rw [e]; exact h.1
    · exact knB_kn h.2 l (by omega)
def betw (a b : Nat) : List Nat → Bool
  | [] => true
  | x :: xs => (Nat.ble a x && Nat.blt x b) && betw a b xs
theorem betw_mem {a b : Nat} : ∀ {l : List Nat}, betw a b l = true → ∀ x ∈ l, a ≤ x ∧ x < b
  | [], _, x, h => by simp at h
  | y :: ys, h, x, hx => by
    simp only [betw, Bool.and_eq_true] at h
    rcases List.mem_cons.1 hx with rfl | hx
    · exact ⟨Nat.le_of_ble_eq_true h.1.1, Nat.blt_eq ▸ h.1.2⟩
    · exact betw_mem h.2 x hx

section
variable {P : Program} {ρ : Slots} {m : Mem} {nx : Nat} {ops : Array Oper} {os : List Oper} {K : List Eff → Slots → Mem → Nat → Prop}
theorem q_endf {rs : Array ResultVar} {k : Nat} {d : D} {m1 : Mem} (f : Nat → Nat) (K : Nat) (h : RetsF P f ρ m rs d) (hd : d.lall (below K) = true) (hm : SubMf f K m m1) (hn : nodupB (m1.map fun x => f x.1) = true) (hk : Nat.ble k K = true) (hf : idB f k = true) : endF P rs k d m1 .normal ρ m nx ∧ endF P rs k d m1 .ret ρ m nx :=
  ⟨q_fn f K h hd hm (nodupB_nodup hn) (Nat.le_of_ble_eq_true hk) (idB_id hf), q_fr f K h hd hm (nodupB_nodup hn) (Nat.le_of_ble_eq_true hk) (idB_id hf)⟩

theorem k_callf {t : Tmp} {F : FuncId} [HasFn P F] {args : Array Operand} {ts : Array TypeId} {k : Nat} {ds ds1 : List D} {m0 : Mem} {d d' : D} {m1 wr : Mem} {nw : List Nat} {V : TypeId} {pos : String} {af : Array Edge} {gd : Option (Nat × Bool)} (f : Nat → Nat) (ns : List Nat) (nx1 : Nat) (hg : gok ops ρ ⟨some t, .call { callee := .value (.func F), args := args, argTypes := ts }, V, pos, af, gd⟩ = some true)
    (hp : Fn P F k ds m0 d m1) (hx : oevs ρ args.toList = some ds1) (hu : Ups ds1 (D.rens f ds)) (hl : D.lalls (below k) ds = true) (hm : SubMf f k m m0) (hi : nodupB (ns.map f) = true) (hi0 : nodupB (m0.map fun x => f x.1) = true) (hk : knB ns m0 k = true) (h1 : Mlall (inns ns) m1 = true) (hd : d.lall (inns ns) = true)
    (hd' : d.ren f = d') (hwr : wrs f m1 ns = wr) (hnw : nws f k ns = nw) (hnx : Nat.ble nx nx1 = true) (hb : betw nx nx1 nw = true)
    (hh : R P ops os (fun Es => K (⟨d', [], wr, nw⟩ :: Es)) ((t, d') :: ρ) (wr ++ m) nx1) : R P ops (⟨some t, .call { callee := .value (.func F), args := args, argTypes := ts }, V, pos, af, gd⟩ :: os) K ρ m nx := by
  subst hd' hwr hnw
  exact R_news nx1 hg (r_callf hp f ns rfl hx hu hl hm (nodupB_nodup hi) (nodupB_nodup hi0) (knB_kn hk) h1 hd) (Nat.le_of_ble_eq_true hnx) (betw_mem hb) hh
end
end Go.Proofs.Ytnlacdclnhoghaa
