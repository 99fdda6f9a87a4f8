/- The rules for data as trees, at the operations as they stand in a region. Of any program. No conditions. -/
import Derived.Test.YtcfefmbbbfdppaaSDOp2
import Derived.Test.YtcfefmbbbfdppaaSDK
namespace Go.Proofs.Ytcfefmbbbfdppaa
open Go.RowKit
set_option linter.unusedVariables false
set_option linter.unusedVariables false
section
variable {P : Program} {ρ : Slots} {m : Mem} {nx : Nat} {ops : Array Oper} {os : List Oper} {K : List Eff → Slots → Mem → Nat → Prop}
theorem and_chk {A B : Prop} (a : A) (b : B) : A ∧ B := ⟨a, b⟩
theorem k_pickT {t : Tmp} {c x y : Operand} {d : D} {V : TypeId} {pos : String} {af : Array Edge} {gd : Option (Nat × Bool)} (hg : gok ops ρ ⟨some t, .pick c x y, V, pos, af, gd⟩ = some true) (hc : oev ρ c = some (.bool true)) (hx : oev ρ x = some d) (hh : R P ops os (fun Es => K (Eff.val (d) :: Es)) ((t, d) :: ρ) m nx) :
    R P ops (⟨some t, .pick c x y, V, pos, af, gd⟩ :: os) K ρ m nx := R_cons hg (r_pickT rfl hc hx) rfl hh
theorem k_pickF {t : Tmp} {c x y : Operand} {d : D} {V : TypeId} {pos : String} {af : Array Edge} {gd : Option (Nat × Bool)} (hg : gok ops ρ ⟨some t, .pick c x y, V, pos, af, gd⟩ = some true) (hc : oev ρ c = some (.bool false)) (hy : oev ρ y = some d) (hh : R P ops os (fun Es => K (Eff.val (d) :: Es)) ((t, d) :: ρ) m nx) :
    R P ops (⟨some t, .pick c x y, V, pos, af, gd⟩ :: os) K ρ m nx := R_cons hg (r_pickF rfl hc hy) rfl hh
theorem k_nilCheck {t : Tmp} {x : Operand} {d : D} {V : TypeId} {pos : String} {af : Array Edge} {gd : Option (Nat × Bool)} (hg : gok ops ρ ⟨some t, .nilCheck x, V, pos, af, gd⟩ = some true) (hx : oev ρ x = some d) (hd : (match d with | .ptr _ _ | .eptr _ => true | _ => false) = true) (hh : R P ops os (fun Es => K (Eff.val (d) :: Es)) ((t, d) :: ρ) m nx) :
    R P ops (⟨some t, .nilCheck x, V, pos, af, gd⟩ :: os) K ρ m nx := R_cons hg (r_nilCheck rfl hx hd) rfl hh
theorem k_len {t : Tmp} {T E : TypeId} [HasSl P T E] {x : Operand} {tk : Tok} {n : Nat} {cs : List D} {V : TypeId} {pos : String} {af : Array Edge} {gd : Option (Nat × Bool)} (hg : gok ops ρ ⟨some t, .call { callee := .builtin .len, args := #[x], argTypes := #[T] }, V, pos, af, gd⟩ = some true) (hx : oev ρ x = some (.slice tk n cs)) (hh : R P ops os (fun Es => K (Eff.val ((.int .i64 n)) :: Es)) ((t, (.int .i64 n)) :: ρ) m nx) :
    R P ops (⟨some t, .call { callee := .builtin .len, args := #[x], argTypes := #[T] }, V, pos, af, gd⟩ :: os) K ρ m nx := R_cons hg (r_len rfl hx) rfl hh
theorem k_build {t : Tmp} {T : TypeId} {ty : Ty} {pl : List (Nat × Nat)} [HasTy P T ty] [HasPlaces P T pl] {parts : Array (Nat × Operand)} {xs : List (Nat × D)} {cs : List D} {V : TypeId} {pos : String} {af : Array Edge} {gd : Option (Nat × Bool)} (hg : gok ops ρ ⟨some t, .build T parts, V, pos, af, gd⟩ = some true) (hx : pevs ρ parts.toList = some xs) (hf : dfill pl ty.zero xs = some cs) (hh : R P ops os (fun Es => K (Eff.val ((.agg cs)) :: Es)) ((t, (.agg cs)) :: ρ) m nx) :
    R P ops (⟨some t, .build T parts, V, pos, af, gd⟩ :: os) K ρ m nx := R_cons hg (r_build rfl hx hf) rfl hh
theorem k_eqa {t : Tmp} {T U : TypeId} {x y : Operand} {ks : List LK} [EqT P T true ks] {cs es : List D} {c : Bool} {V : TypeId} {pos : String} {af : Array Edge} {gd : Option (Nat × Bool)} (hg : gok ops ρ ⟨some t, .binOp .eql T x y U, V, pos, af, gd⟩ = some true) (hx : oev ρ x = some (.agg cs)) (hy : oev ρ y = some (.agg es)) (hc : lks cs = some ks) (hd : lks es = some ks) (h : deqs cs es = c) (hh : R P ops os (fun Es => K (Eff.val ((.bool c)) :: Es)) ((t, (.bool c)) :: ρ) m nx) :
    R P ops (⟨some t, .binOp .eql T x y U, V, pos, af, gd⟩ :: os) K ρ m nx := R_cons hg (r_eqa rfl hx hy hc hd h) rfl hh
theorem k_nea {t : Tmp} {T U : TypeId} {x y : Operand} {ks : List LK} [EqT P T true ks] {cs es : List D} {c : Bool} {V : TypeId} {pos : String} {af : Array Edge} {gd : Option (Nat × Bool)} (hg : gok ops ρ ⟨some t, .binOp .neq T x y U, V, pos, af, gd⟩ = some true) (hx : oev ρ x = some (.agg cs)) (hy : oev ρ y = some (.agg es)) (hc : lks cs = some ks) (hd : lks es = some ks) (h : (!deqs cs es) = c) (hh : R P ops os (fun Es => K (Eff.val ((.bool c)) :: Es)) ((t, (.bool c)) :: ρ) m nx) :
    R P ops (⟨some t, .binOp .neq T x y U, V, pos, af, gd⟩ :: os) K ρ m nx := R_cons hg (r_nea rfl hx hy hc hd h) rfl hh
end
end Go.Proofs.Ytcfefmbbbfdppaa
