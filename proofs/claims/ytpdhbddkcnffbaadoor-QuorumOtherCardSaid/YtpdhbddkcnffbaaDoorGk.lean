/- The sponge's End; Begin; Sum of bytes. Conditions: a sponge that holds less than a block, and noughts behind it; bytes that are data. -/
import Derived.Test.YtpdhbddkcnffbaaDoorDK2
import Derived.Test.YtpdhbddkcnffbaaDoorDCode
import Derived.Test.YtpdhbddkcnffbaaDoorDInst
import Derived.Test.YtpdhbddkcnffbaaDoorGd
import Derived.Test.YtpdhbddkcnffbaaDoorBPut
namespace Go.Proofs.YtpdhbddkcnffbaaDoor.Kec
set_option linter.unusedVariables false
abbrev W := BitVec 64
abbrev S := Nat → W
def rl (x : W) (r : Nat) : W := x.rotateLeft r
def par (a : S) (x : Nat) : W := a x ^^^ a (x + 5) ^^^ a (x + 10) ^^^ a (x + 15) ^^^ a (x + 20)
def dd (c : S) (x : Nat) : W := c ((x + 4) % 5) ^^^ rl (c ((x + 1) % 5)) 1
def theta (a : S) (i : Nat) : W := a i ^^^ dd (par a) (i % 5)
def TT (p q r : Nat) (c : S) (x : Nat) : W := c x ^^^ c ((x + p) % 5) ^^^ rl (c ((x + q) % 5)) r

def Eq5 (c d : S) : Prop := ∀ x, x < 5 → c x = d x
def Eq25 (a b : S) : Prop := ∀ i, i < 25 → a i = b i

def turns : List Nat := [0, 1, 62, 28, 27, 36, 44, 6, 55, 20, 3, 10, 43, 25, 39, 41, 45, 15, 21, 8, 18, 2, 61, 56, 14]
def turnAt (i : Nat) : Nat := turns.getD i 0
/-- where lane i goes -/
def goes (i : Nat) : Nat := i / 5 + 5 * ((2 * (i % 5) + 3 * (i / 5)) % 5)
/-- what comes to lane j -/
def comes (j : Nat) : Nat := 5 * (j % 5) + (3 * (j / 5) + j % 5) % 5
theorem goes_comes : ∀ j, j < 25 → goes (comes j) = j ∧ comes j < 25 := by decide
theorem comes_goes : ∀ j, j < 25 → comes (goes j) = j ∧ goes j < 25 := by decide
theorem turnAt_lt : ∀ j, j < 25 → turnAt j < 64 := by decide
def rhopi (a : S) (j : Nat) : W := rl (a (comes j)) (turnAt (comes j))
def chi (b : S) (i : Nat) : W := b i ^^^ (~~~ b ((i % 5 + 1) % 5 + 5 * (i / 5)) &&& b ((i % 5 + 2) % 5 + 5 * (i / 5)))
def iota (k : W) (a : S) (i : Nat) : W := if i = 0 then a 0 ^^^ k else a i
def round (k : W) (a : S) : S := iota k (chi (rhopi (theta a)))
def turn (ks : List W) (a : S) : S := ks.foldl (fun a k => round k a) a
end Go.Proofs.YtpdhbddkcnffbaaDoor.Kec

namespace Go.Proofs.YtpdhbddkcnffbaaDoor
open Go.RowKit Go.IntWalk
set_option linter.unusedVariables false
set_option linter.unusedVariables false
set_option maxRecDepth 100000

namespace Kec
/-- a word as a number -/
def wv (x : W) : Int := (x.toNat : Int)
theorem ofInt_wv (x : W) : BitVec.ofInt 64 (wv x) = x := by
  unfold wv; rw [BitVec.ofInt_natCast, BitVec.ofNat_toNat]; simp
theorem wrap_wv (x : W) : IntKind.u64.wrap (x.toNat : Int) = wv x := by
  have := x.isLt
  unfold wv; exact u64_in _ (by omega)
theorem xor_wv (x y : W) : bitw .xor .u64 (wv x) (wv y) = wv (x ^^^ y) := by
  unfold bitw
  show IntKind.u64.wrap ((BitVec.ofInt 64 (wv x) ^^^ BitVec.ofInt 64 (wv y)).toNat : Int) = _
  rw [ofInt_wv, ofInt_wv, wrap_wv]
theorem and_wv (x y : W) : bitw .and .u64 (wv x) (wv y) = wv (x &&& y) := by
  unfold bitw
  show IntKind.u64.wrap ((BitVec.ofInt 64 (wv x) &&& BitVec.ofInt 64 (wv y)).toNat : Int) = _
  rw [ofInt_wv, ofInt_wv, wrap_wv]
theorem or_wv (x y : W) : bitw .or .u64 (wv x) (wv y) = wv (x ||| y) := by
  unfold bitw
  show IntKind.u64.wrap ((BitVec.ofInt 64 (wv x) ||| BitVec.ofInt 64 (wv y)).toNat : Int) = _
  rw [ofInt_wv, ofInt_wv, wrap_wv]
theorem com_wv (x : W) : bitw .xor .u64 (if IntKind.u64.signed then -1 else IntKind.u64.max) (wv x) = wv (~~~ x) := by
  have e : (if IntKind.u64.signed then -1 else IntKind.u64.max) = wv (BitVec.allOnes 64) := by decide
  rw [e, xor_wv, BitVec.allOnes_xor]
theorem shl_wv (x : W) (s : Nat) (hs : s < 64) : IntKind.u64.wrap (wv x * 2 ^ (min ((s : Nat) : Int).toNat IntKind.u64.bits)) = wv (x <<< s) := by
  have e : min ((s : Nat) : Int).toNat IntKind.u64.bits = s := by rw [Int.toNat_natCast]; exact Nat.min_eq_left (by show s ≤ 64; omega)
  rw [e, IntKind.wrap_u64]
  unfold wv
  rw [BitVec.toNat_shiftLeft, Nat.shiftLeft_eq]
  have : (x.toNat : Int) * 2 ^ s = ((x.toNat * 2 ^ s : Nat) : Int) := by push_cast; rfl
  rw [this]
  omega
theorem shr_wv (x : W) (s : Nat) (hs : s ≤ 64) : (wv x).fdiv (2 ^ (min ((s : Nat) : Int).toNat IntKind.u64.bits)) = wv (x >>> s) := by
  have e : min ((s : Nat) : Int).toNat IntKind.u64.bits = s := by rw [Int.toNat_natCast]; exact Nat.min_eq_left hs
  rw [e, Int.fdiv_eq_ediv_of_nonneg _ (by exact Int.le_of_lt (Int.pow_pos (by decide)))]
  unfold wv
  rw [BitVec.toNat_ushiftRight, Nat.shiftRight_eq_div_pow]
  have : (2 : Int) ^ s = ((2 ^ s : Nat) : Int) := by push_cast; rfl
  rw [this, ← Int.natCast_ediv]

/-- a row of words -/
def arr (f : S) (n : Nat) : List D := (List.range n).map fun j => D.int .u64 (wv (f j))
theorem arr_len (f : S) (n : Nat) : (arr f n).length = n := by simp [arr]
theorem arr_get (f : S) (n j : Nat) (h : j < n) : (arr f n)[j]? = some (D.int .u64 (wv (f j))) := by
  unfold arr; rw [List.getElem?_map, List.getElem?_range h]; rfl
theorem arr_congr {f g : S} {n : Nat} (h : ∀ j, j < n → f j = g j) : arr f n = arr g n := by
  unfold arr
  refine List.map_congr_left fun j hj => ?_
  rw [h j (List.mem_range.1 hj)]
def upd (f : S) (k : Nat) (v : W) : S := fun j => if j = k then v else f j
theorem arr_cut (f : S) (n k : Nat) (h : k < n) : cut ⟨false, 1, [.int .u64 0]⟩ (0 + ((k : Nat) : Int).toNat * 1) (arr f n) = some (.int .u64 (wv (f k))) := by
  unfold cut
  rw [Int.toNat_natCast, Nat.zero_add, Nat.mul_one, cond_false, arr_get f n k h]
theorem arr_put (f : S) (n k : Nat) (h : k < n) (v : W) : splice (0 + ((k : Nat) : Int).toNat * 1) [D.int .u64 (wv v)] (arr f n) = some (arr (upd f k v) n) := by
  unfold splice
  rw [Int.toNat_natCast, Nat.zero_add, Nat.mul_one, Nat.ble_eq_true_of_le (by rw [arr_len]; simp; omega), cond_true]
  congr 1
  apply List.ext_getElem?
  intro j
  have hl := arr_len f n
  rcases Nat.lt_or_ge j n with hj | hj
  · rw [arr_get _ n j hj, List.append_assoc, List.getElem?_append, List.length_take, hl, show min k n = k from by omega]
    unfold upd
    by_cases h1 : j < k
    · rw [if_pos h1, List.getElem?_take, if_pos h1, arr_get f n j hj, if_neg (by omega)]
    · rw [if_neg h1]
      by_cases h2 : j = k
      · subst h2; rw [Nat.sub_self, if_pos rfl]; rfl
      · rw [List.getElem?_append_right (by simp; omega), List.getElem?_drop, if_neg h2]
        simp only [List.length_cons, List.length_nil]
        rw [show k + (0 + 1) + (j - k - (0 + 1)) = j from by omega, arr_get f n j hj]
  · rw [List.getElem?_eq_none (by simp [hl]; omega), List.getElem?_eq_none (by rw [arr_len]; exact hj)]
theorem arr_cls (f : S) (n : Nat) : D.cls (arr f n) = true := D.cls_of fun d hd => by
  unfold arr at hd
  obtain ⟨j, _, rfl⟩ := List.mem_map.1 hd
  rfl
theorem arr_fzs (f : S) (n : Nat) : D.fzs (arr f n) = arr f n := by
  unfold arr
  induction List.range n with
  | nil => rfl
  | cons j l ih => show (D.int .u64 (wv (f j))).fz :: D.fzs _ = _; rw [ih]; rfl
theorem arr_whole (f : S) (n : Nat) (ze : List D) : cut ⟨true, n, ze⟩ 0 (arr f n) = some (.agg (arr f n)) := by
  unfold cut
  simp only [cond_true, Nat.zero_add, List.drop_zero]
  rw [Nat.ble_eq_true_of_le (by rw [arr_len]; exact Nat.le_refl _), cond_true, List.take_of_length_le (by rw [arr_len]; exact Nat.le_refl _)]
theorem arr_lay (f : S) (n : Nat) (cs : List D) (h : cs.length = n) : splice 0 (arr f n) cs = some (arr f n) := by
  unfold splice
  rw [Nat.ble_eq_true_of_le (by rw [arr_len, h]; omega), cond_true, Nat.zero_add, List.drop_of_length_le (by rw [arr_len, h]; exact Nat.le_refl _)]
  simp
theorem arr_bels (k : Nat) (f : S) (n : Nat) : D.bels k (arr f n) = true := by
  unfold arr
  induction List.range n with
  | nil => rfl
  | cons j l ih => show (true && D.bels k _) = true; rw [ih]; rfl
theorem z5 : (List.replicate 5 (D.int .u64 0)) = arr (fun _ => 0) 5 := rfl

/-! ### the loops' states -/
/-- the sums, when i words are in them -/
def cI (a : S) : Nat → S
  | 0 => fun _ => 0
  | i + 1 => upd (cI a i) (i % 5) (cI a i (i % 5) ^^^ a i)
theorem cI_par (a : S) : ∀ x, x < 5 → cI a 25 x = par a x := by
  intro x hx
  have h : x = 0 ∨ x = 1 ∨ x = 2 ∨ x = 3 ∨ x = 4 := by omega
  rcases h with rfl | rfl | rfl | rfl | rfl <;> simp [cI, upd, par]
def bI (t : S) : Nat → S
  | 0 => fun _ => 0
  | i + 1 => upd (bI t i) (goes i) (rl (t i) (turnAt i))
theorem bI_at (t : S) : ∀ i, i ≤ 25 → ∀ j, j < 25 → bI t i j = if comes j < i then rl (t (comes j)) (turnAt (comes j)) else 0 := by
  intro i
  induction i with
  | zero => intro _ j _; rfl
  | succ i ih =>
    intro hi j hj
    have h0 := ih (by omega) j hj
    unfold bI upd
    by_cases e : j = goes i
    · subst e
      have := (comes_goes i (by omega)).1
      rw [if_pos rfl, this, if_pos (by omega)]
    · rw [if_neg e, h0]
      have hne : comes j ≠ i := fun e' => e (by rw [← e', (goes_comes j hj).1])
      by_cases c : comes j < i
      · rw [if_pos c, if_pos (by omega)]
      · rw [if_neg c, if_neg (by omega)]
theorem bI_rhopi (t : S) : Eq25 (bI t 25) (rhopi t) := fun j hj => by
  rw [bI_at t 25 (Nat.le_refl _) j hj, if_pos (goes_comes j hj).2]; rfl
def aI (b a : S) : Nat → S
  | 0 => a
  | i + 1 => upd (aI b a i) i (chi b i)
theorem aI_at (b a : S) : ∀ i j, aI b a i j = if j < i then chi b j else a j := by
  intro i
  induction i with
  | zero => intro j; simp [aI]
  | succ i ih =>
    intro j
    unfold aI upd
    by_cases e : j = i
    · subst e; rw [if_pos rfl, if_pos (by omega)]
    · rw [if_neg e, ih]
      by_cases c : j < i
      · rw [if_pos c, if_pos (by omega)]
      · rw [if_neg c, if_neg (by omega)]

/-- the rounds' numbers -/
def kons : List W := [0x0000000000000001, 0x0000000000008082, 0x800000000000808a, 0x8000000080008000, 0x000000000000808b, 0x0000000080000001, 0x8000000080008081, 0x8000000000008009, 0x000000000000008a, 0x0000000000000088, 0x0000000080008009, 0x000000008000000a, 0x000000008000808b, 0x800000000000008b, 0x8000000000008089, 0x8000000000008003, 0x8000000000008002, 0x8000000000000080, 0x000000000000800a, 0x800000008000000a, 0x8000000080008081, 0x8000000000008080, 0x0000000080000001, 0x8000000080008008]
end Kec
end Go.Proofs.YtpdhbddkcnffbaaDoor

namespace Go.Proofs.YtpdhbddkcnffbaaDoor
open Go.RowKit
set_option linter.unusedVariables false
set_option linter.unusedVariables false
set_option linter.unusedSimpArgs false

def ofVals : List Value → Option (List D)
  | [] => some []
  | v :: vs => match ofVal v, ofVals vs with | some d, some ds => some (d :: ds) | _, _ => none
theorem ofVals_reps {G : Gh} {w : World} : ∀ {vs : List Value} {ds : List D}, ofVals vs = some ds → Reps G w ds vs.toArray ∧ ∀ d ∈ ds, d.one = true
  | [], ds, h => by simp [ofVals] at h; subst h; exact ⟨Reps.nil, fun d hd => by simp at hd⟩
  | v :: vs, ds, h => by
    simp only [ofVals] at h
    split at h
    · rename_i d ds' h1 h2
      injection h with h
      subst h
      obtain ⟨h3, h4⟩ := ofVals_reps (G := G) (w := w) h2
      refine ⟨Reps.cons (ofVal_rep h1) h3, fun x hx => ?_⟩
      rcases List.mem_cons.1 hx with rfl | hx
      · exact ofVal_one h1
      · exact h4 x hx
    · cases h

section
variable {P : Program} {o : Oper} {ρ : Slots} {m : Mem}
theorem r_loadg {T : TypeId} {ty : Ty} [ht : HasTy P T ty] {x : Operand} {g off : Nat} {vs : List Value} {cs : List D} {d : D} (ho : o.op = .load T x) (hx : oev ρ x = some (.raw (.pointer (some ⟨g, off, none⟩)))) (hg : (g, vs) ∈ gtab) (hcs : ofVals vs = some cs) (hd : cut ty off cs = some d) : OpSound P o (Eff.val d) ρ m := by
  refine sound_val fun B G a w m' hs h _ => ?_
  obtain ⟨_, T', fr, hv⟩ := hs.gtab_ _ hg
  obtain ⟨hr, h1⟩ := ofVals_reps (G := G) (w := w) hcs
  have hp := h x (by simp [ho, Op.operands]) _ hx
  have he : a.eval x = .pointer (some ⟨g, off, none⟩) := (show ∀ v, Rep G w (.raw (.pointer (some ⟨g, off, none⟩))) v → v = .pointer (some ⟨g, off, none⟩) from fun v h => by cases h; rfl) _ hp
  obtain ⟨v, h2, h3⟩ := run_cut (P := P) (T := T) (b := g) (o := 0) hr h1 (fun i _ => by rw [cell_of_row w _ _ vs.toArray T' fr hv, Nat.zero_add]) hd
  rw [Nat.zero_add] at h2
  exact ⟨v, by simp [execOp, ho, Instr.loadAt, Instr.sureAddr, he, Sem.run_bind, h2], h3⟩
theorem r_indexAddrg {T : TypeId} {x ix : Operand} {n : Nat} {E : TypeId} {ty : Ty} [ha : HasArr P T n E] [ht : HasTy P E ty] {g off : Nat} {k : IntKind} {j : Int} (ho : o.op = .indexAddr T x ix) (hx : oev ρ x = some (.raw (.pointer (some ⟨g, off, none⟩)))) (hix : oev ρ ix = some (.int k j)) (hj : 0 ≤ j ∧ j < n) : OpSound P o (Eff.val (.raw (.pointer (some ⟨g, off + j.toNat * ty.size, none⟩)))) ρ m := by
  refine sound_val fun B G a w m' hs h _ => ?_
  have hp := h x (by simp [ho, Op.operands]) _ hx
  have hq := h ix (by simp [ho, Op.operands]) _ hix
  generalize hev : a.eval x = vx at hp
  generalize hevi : a.eval ix = vi at hq
  cases hq
  cases hp
  obtain ⟨i, hi, hsi⟩ := Option.map_eq_some_iff.1 ht.size
  refine ⟨.pointer (some ⟨g, off + j.toNat * ty.size, none⟩), ?_, .raw _ rfl⟩
  simp [execOp, ho, hev, hevi, Instr.indexAt, Instr.sureAddr, Sem.run_bind, run_underlying ha.arr, asIntOf, hj.1, hj.2, sizeOf, typeInfo, hi, hsi, add_off]
end
section
variable {P : Program} {ρ : Slots} {m : Mem} {nx : Nat} {ops : Array Oper} {os : List Oper} {K : List Eff → Slots → Mem → Nat → Prop}
theorem k_loadg {t : Tmp} {T : TypeId} {ty : Ty} [HasTy P T ty] {x : Operand} {g off : Nat} {vs : List Value} {cs : List D} {d : D} {V : TypeId} {pos : String} {af : Array Edge} {gd : Option (Nat × Bool)} (hg : gok ops ρ ⟨some t, .load T x, V, pos, af, gd⟩ = some true)
    (hx : oev ρ x = some (.raw (.pointer (some ⟨g, off, none⟩)))) (hgt : (g, vs) ∈ gtab) (hcs : ofVals vs = some cs) (hd : cut ty off cs = some d)
    (hh : R P ops os (fun Es => K (Eff.val d :: Es)) ((t, d) :: ρ) m nx) : R P ops (⟨some t, .load T x, V, pos, af, gd⟩ :: os) K ρ m nx := R_cons hg (r_loadg rfl hx hgt hcs hd) rfl hh
theorem k_indexAddrg {t : Tmp} {T : TypeId} {x ix : Operand} {n : Nat} {E : TypeId} {ty : Ty} [HasArr P T n E] [HasTy P E ty] {g off : Nat} {k : IntKind} {j : Int} {V : TypeId} {pos : String} {af : Array Edge} {gd : Option (Nat × Bool)} (hg : gok ops ρ ⟨some t, .indexAddr T x ix, V, pos, af, gd⟩ = some true)
    (hx : oev ρ x = some (.raw (.pointer (some ⟨g, off, none⟩)))) (hix : oev ρ ix = some (.int k j)) (hj : 0 ≤ j ∧ j < n)
    (hh : R P ops os (fun Es => K (Eff.val (.raw (.pointer (some ⟨g, off + j.toNat * ty.size, none⟩))) :: Es)) ((t, .raw (.pointer (some ⟨g, off + j.toNat * ty.size, none⟩))) :: ρ) m nx) : R P ops (⟨some t, .indexAddr T x ix, V, pos, af, gd⟩ :: os) K ρ m nx := R_cons hg (r_indexAddrg rfl hx hix hj) rfl hh
end
end Go.Proofs.YtpdhbddkcnffbaaDoor

namespace Go.Proofs.YtpdhbddkcnffbaaDoor
open Go.RowKit Go.IntWalk Kec
set_option linter.unusedVariables false
set_option linter.unusedVariables false
set_option maxRecDepth 100000
--nrm arr_len arr_cls arr_fzs arr_bels

theorem rl_or (x : Kec.W) (r : Nat) (h : r < 64) : rl x r = x <<< r ||| x >>> (64 - r) := by
  unfold rl
  rw [BitVec.rotateLeft_def, Nat.mod_eq_of_lt h]
theorem rot_ok (x : Kec.W) (r : Nat) (h : r < 64) : Pur Tryd.prog 80 [.int .u64 (wv x), .int .i64 (r : Int)] (.int .u64 (wv (rl x r))) := by
  have h1 : IntKind.u64.wrap (r : Int) = (r : Int) := u64_in _ (by omega)
  have h2 : bitw .and .u64 (r : Int) 63 = (r : Int) := by
    have e1 : (r : Int) = wv (BitVec.ofNat 64 r) := by unfold wv; rw [BitVec.toNat_ofNat, Nat.mod_eq_of_lt (by omega)]
    have e2 : (63 : Int) = wv (BitVec.ofNat 64 63) := by decide
    rw [e2, e1, and_wv]
    unfold wv
    congr 1
    rw [BitVec.toNat_and, BitVec.toNat_ofNat, BitVec.toNat_ofNat, Nat.mod_eq_of_lt (by omega : r < 2 ^ 64)]
    show r &&& 63 = r
    rw [show (63 : Nat) = 2 ^ 6 - 1 from rfl, Nat.and_two_pow_sub_one_eq_mod, Nat.mod_eq_of_lt (by omega)]
  have h3 : IntKind.u64.wrap (64 - (r : Int)) = ((64 - r : Nat) : Int) := by rw [u64_in _ (by omega)]; omega
  have h4 := shl_wv x r h
  have h5 := shr_wv x (64 - r) (by omega)
  have h6 := or_wv (x <<< r) (x >>> (64 - r))
  rw [← rl_or x r h] at h6
  refine pur_intro Tryd.func80 rfl Tryd.ntmps80 rfl (by first | rfl | assumption | exact bs_cl _) fun B => ?_
  repeat (first | with_reducible (first | refine W_seq ?_ | refine q_then ?_ | refine q_thenr ?_ | refine q_thenx ?_ | refine W_block ?_ | refine q_block ?_ | refine q_blockr ?_ | refine q_blockx ?_ | refine W_ret ?_ | refine W_skip ?_ | refine W_label ?_ | refine W_exit ?_ | refine W_scope ?_ | refine q_scope ?_ | refine q_scoper ?_ | refine q_scopex ?_) | (with_reducible refine R_nil ?_; try dsimp only [slots0, slots_ud, arr_len, arr_cls, arr_fzs, arr_bels, cells_U, agg_ud, drop0, dropS, takeS, take0, ud_nil, take_ud, take_ud0, drop_ud, drop_ud0, take_udk, D.cells, D.fz, D.fzs, List.take_succ_cons, List.take_zero, List.drop_succ_cons, List.drop_zero, List.cons_append, List.nil_append, List.append_eq, List.length_cons, List.length_nil, Nat.reduceAdd, Nat.reduceMul, Nat.reduceSub, Int.reduceAdd, Int.reduceSub, Int.reduceToNat, Int.reduceNeg, Int.reduceMul]) | refine q_blocky rfl ?_ | refine W_plain rfl ?_ | refine W_drawn mixed rfl ?_ | refine and_chk (by kernel_rfl) ?_ | refine k_move rfl rfl ?_ | refine k_assign rfl rfl ?_ | refine k_conv rfl rfl h1 ?_ | refine k_bits rfl rfl rfl rfl h2 ?_ | (refine k_shl rfl rfl rfl ?_ h4 ?_; (omega)) | refine k_sub rfl rfl rfl h3 ?_ | (refine k_shr rfl rfl rfl ?_ h5 ?_; (omega)) | refine k_bits rfl rfl rfl rfl h6 ?_ | (refine k_subi rfl rfl rfl ?_ ?_; (omega)) | refine W_yes rfl ?_ | refine W_no rfl ?_)
  (first | with_reducible refine q_endr ?_ | with_reducible refine q_endn ?_); refine rets1 Tryd.results80 (by first | exact RetV.tmp _ _ rfl | exact RetV.cell _ _ _ _ _ _ _ _ inferInstance rfl rfl rfl) ?_
  rfl

/-- the tables as they are read -/
def kf : S := fun j => kons.getD j 0
def tcells : List D := turns.map fun (t : Nat) => D.int .i64 (t : Int)
def tab0 : List Value := [0x0000000000000001, 0x0000000000008082, 0x800000000000808a, 0x8000000080008000, 0x000000000000808b, 0x0000000080000001, 0x8000000080008081, 0x8000000000008009, 0x000000000000008a, 0x0000000000000088, 0x0000000080008009, 0x000000008000000a, 0x000000008000808b, 0x800000000000008b, 0x8000000000008089, 0x8000000000008003, 0x8000000000008002, 0x8000000000000080, 0x000000000000800a, 0x800000008000000a, 0x8000000080008081, 0x8000000000008080, 0x0000000080000001, 0x8000000080008008].map (.int .u64)
def tab1 : List Value := [0, 1, 62, 28, 27, 36, 44, 6, 55, 20, 3, 10, 43, 25, 39, 41, 45, 15, 21, 8, 18, 2, 61, 56, 14].map (.int .i64)
theorem gm0 : (0, tab0) ∈ gtab := List.mem_cons_self
theorem gm1 : (1, tab1) ∈ gtab := List.mem_cons_of_mem _ List.mem_cons_self
theorem ov0 : ofVals tab0 = some (arr kf 24) := by kernel_rfl
theorem ov1 : ofVals tab1 = some tcells := by kernel_rfl
theorem tt_cut (i : Nat) (h : i < 25) : cut ⟨false, 1, [.int .i64 0]⟩ (0 + ((i : Nat) : Int).toNat * 1) tcells = some (.int .i64 ((turnAt i : Nat) : Int)) := by
  unfold cut
  rw [Int.toNat_natCast, Nat.zero_add, Nat.mul_one, cond_false]
  have key : ∀ i, i < 25 → tcells[i]? = some (.int .i64 ((turnAt i : Nat) : Int)) := by
    intro i hi
    unfold tcells turnAt
    rw [List.getElem?_map, List.getD_eq_getElem?_getD]
    have : i < turns.length := hi
    rw [List.getElem?_eq_getElem this]; rfl
  exact key i h
theorem arr_ix (f : S) (n k : Nat) (h : k < n) : cut ⟨false, 1, [.int .u64 0]⟩ (((k : Nat) : Int).toNat * 1) (arr f n) = some (.int .u64 (wv (f k))) := by
  have := arr_cut f n k h
  rw [Nat.zero_add] at this; exact this

theorem quo5 (k : Nat) (hk : k < 1000) : IntKind.i64.wrap ((k : Int).tdiv 5) = ((k / 5 : Nat) : Int) := by
  rw [Int.tdiv_eq_ediv_of_nonneg (by omega), i64_in _ (by omega)]; omega
theorem rem5 (k : Nat) : (k : Int).tmod 5 = ((k % 5 : Nat) : Int) := by
  rw [Int.tmod_eq_emod_of_nonneg (by omega)]; omega
theorem rem5a (k c : Nat) : ((k : Int) + (c : Int)).tmod 5 = (((k + c) % 5 : Nat) : Int) := by
  have := rem5 (k + c)
  rw [← this]; push_cast; rfl
theorem mulc (c k : Nat) (hc : c < 10) (hk : k < 1000) : IntKind.i64.wrap ((c : Int) * (k : Int)) = ((c * k : Nat) : Int) := by
  have : c * k ≤ 9 * 999 := Nat.mul_le_mul (by omega) (by omega)
  rw [← Int.natCast_mul, i64_in _ (by omega)]

/-- the lanes with the sums in -/
def tI (a : S) (i : Nat) : Kec.W := a i ^^^ cI a 25 ((i % 5 + 4) % 5) ^^^ rl (cI a 25 ((i % 5 + 1) % 5)) 1
theorem tI_theta (a : S) (i : Nat) : tI a i = theta a i := by
  unfold tI theta dd
  rw [cI_par a _ (Nat.mod_lt _ (by decide)), cI_par a _ (Nat.mod_lt _ (by decide)), BitVec.xor_assoc]
def rI (k : Kec.W) (a : S) : S := upd (aI (bI (tI a) 25) a 25) 0 (aI (bI (tI a) 25) a 25 0 ^^^ k)
theorem rI_round (k : Kec.W) (a : S) : Eq25 (rI k a) (round k a) := by
  have ht : tI a = theta a := funext fun i => tI_theta a i
  have hb : Eq25 (bI (tI a) 25) (rhopi (theta a)) := by rw [ht]; exact bI_rhopi (theta a)
  have hc : Eq25 (chi (bI (tI a) 25)) (chi (rhopi (theta a))) := fun i hi => by
    unfold chi
    rw [hb i hi, hb _ (by omega), hb _ (by omega)]
  intro i hi
  unfold rI upd round iota
  by_cases e : i = 0
  · subst e
    rw [if_pos rfl, if_pos rfl, aI_at, if_pos (by omega), hc 0 (by omega)]
  · rw [if_neg e, if_neg e, aI_at, if_pos hi, hc i hi]
theorem turn_succ (a : S) (r : Nat) (h : r < 24) : turn (kons.take (r + 1)) a = round (kf r) (turn (kons.take r) a) := by
  have hk : kons[r]? = some (kf r) := by
    unfold kf
    rw [List.getD_eq_getElem?_getD]
    have : r < kons.length := h
    rw [List.getElem?_eq_getElem this]; rfl
  rw [List.take_add_one, hk]
  unfold turn
  rw [List.foldl_append]; rfl

set_option maxHeartbeats 16000000 in
theorem Turn_ok (a : S) : Pur Tryd.prog 79 [.agg (arr a 25)] (.agg (arr (turn kons a) 25)) := by
  have hcl : D.cl (.agg (arr (turn kons a) 25)) = true := arr_cls _ _
  refine pur_intro Tryd.func79 rfl Tryd.ntmps79 rfl hcl fun B => ?_
  repeat (first | with_reducible (first | refine W_seq ?_ | refine q_then ?_ | refine q_thenr ?_ | refine q_thenx ?_ | refine W_block ?_ | refine q_block ?_ | refine q_blockr ?_ | refine q_blockx ?_ | refine W_ret ?_ | refine W_skip ?_ | refine W_label ?_ | refine W_exit ?_ | refine W_scope ?_ | refine q_scope ?_ | refine q_scoper ?_ | refine q_scopex ?_) | (with_reducible refine R_nil ?_; try dsimp only [slots0, slots_ud, arr_len, arr_cls, arr_fzs, arr_bels, cells_U, agg_ud, drop0, dropS, takeS, take0, ud_nil, take_ud, take_ud0, drop_ud, drop_ud0, take_udk, D.cells, D.fz, D.fzs, List.take_succ_cons, List.take_zero, List.drop_succ_cons, List.drop_zero, List.cons_append, List.nil_append, List.append_eq, List.length_cons, List.length_nil, Nat.reduceAdd, Nat.reduceMul, Nat.reduceSub, Int.reduceAdd, Int.reduceSub, Int.reduceToNat, Int.reduceNeg, Int.reduceMul]) | refine q_blocky rfl ?_ | refine W_plain rfl ?_ | refine W_drawn mixed rfl ?_ | refine and_chk (by kernel_rfl) ?_ | refine k_move rfl rfl ?_ | refine k_assign rfl rfl ?_ | refine k_load rfl rfl rfl rfl ?_ | refine k_alloc rfl ?_ | refine k_box rfl rfl rfl ?_ | refine k_store rfl rfl rfl rfl rfl rfl rfl ?_ | refine k_loadg rfl rfl gm0 ov0 (arr_whole _ _ _) ?_ | (refine k_indexAddr rfl rfl rfl ⟨?_, ?_⟩ ?_; (omega); (omega)) | (refine k_indexAddrs rfl rfl rfl ⟨?_, ?_⟩ rfl ?_; (omega); (omega)) | (refine k_index rfl rfl rfl ⟨?_, ?_⟩ rfl ?_; (omega); (omega)) | refine k_loade rfl rfl rfl ?_ | (refine k_addi rfl rfl rfl ?_ ?_; (omega)) | (refine k_lssT rfl rfl rfl ?_ ?_; (omega)) | (refine k_lssF rfl rfl rfl ?_ ?_; (omega)) | refine W_yes rfl ?_ | refine W_no rfl ?_)
  refine W_loop (fun n' ρ m nx => ∃ r : Nat, r ≤ 24 ∧ n' = 24 - r ∧ ρ = [(17, .int .i64 (r : Int)), (16, .agg (arr kf 24)), (2, .ptr 1 0), (1, .ptr 0 0)] ∧ m = [(1, some (.var 107 (arr (fun _ => 0) 25))), (0, some (.var 107 (arr (turn (kons.take r) a) 25)))] ∧ nx = 2)
    ⟨_, _, _, _, (by repeat (first | exact trivial | refine ⟨⟨rfl, rfl⟩, ?_⟩ | refine ⟨⟨rfl, bs_bel _ _⟩, ?_⟩ | refine ⟨⟨rfl, arr_bels _ _ _⟩, ?_⟩)), (by repeat (first | exact trivial | refine ⟨⟨rfl, rfl, rfl⟩, ?_⟩ | refine ⟨⟨rfl, rfl, bs_bels _ _⟩, ?_⟩ | refine ⟨⟨rfl, rfl, arr_bels _ _ _⟩, ?_⟩)), 0, by decide, rfl, rfl, rfl, rfl⟩ ?_
  rintro n' ρ m nx ⟨r, hr, rfl, rfl, rfl, rfl⟩
  by_cases hlt : r < 24
  · have hts := turn_succ a r hlt
    have hix := arr_ix kf 24 r hlt
    generalize turn (kons.take r) a = A at *
    generalize kf r = kr at *
    have hfin : arr (rI kr A) 25 = arr (turn (kons.take (r + 1)) a) 25 := by rw [hts]; exact arr_congr (rI_round kr A)
    repeat (first | with_reducible (first | refine W_seq ?_ | refine q_then ?_ | refine q_thenr ?_ | refine q_thenx ?_ | refine W_block ?_ | refine q_block ?_ | refine q_blockr ?_ | refine q_blockx ?_ | refine W_ret ?_ | refine W_skip ?_ | refine W_label ?_ | refine W_exit ?_ | refine W_scope ?_ | refine q_scope ?_ | refine q_scoper ?_ | refine q_scopex ?_) | (with_reducible refine R_nil ?_; try dsimp only [slots0, slots_ud, arr_len, arr_cls, arr_fzs, arr_bels, cells_U, agg_ud, drop0, dropS, takeS, take0, ud_nil, take_ud, take_ud0, drop_ud, drop_ud0, take_udk, D.cells, D.fz, D.fzs, List.take_succ_cons, List.take_zero, List.drop_succ_cons, List.drop_zero, List.cons_append, List.nil_append, List.append_eq, List.length_cons, List.length_nil, Nat.reduceAdd, Nat.reduceMul, Nat.reduceSub, Int.reduceAdd, Int.reduceSub, Int.reduceToNat, Int.reduceNeg, Int.reduceMul]) | refine q_blocky rfl ?_ | refine W_plain rfl ?_ | refine W_drawn mixed rfl ?_ | refine and_chk (by kernel_rfl) ?_ | refine k_move rfl rfl ?_ | refine k_assign rfl rfl ?_ | refine k_load rfl rfl rfl rfl ?_ | refine k_alloc rfl ?_ | refine k_box rfl rfl rfl ?_ | refine k_store rfl rfl rfl rfl rfl rfl rfl ?_ | (refine k_index rfl rfl rfl ⟨?_, ?_⟩ (by exact hix) ?_; (omega); (omega)) | refine k_load rfl rfl rfl (arr_whole _ _ _) ?_ | (refine k_indexAddr rfl rfl rfl ⟨?_, ?_⟩ ?_; (omega); (omega)) | (refine k_indexAddrs rfl rfl rfl ⟨?_, ?_⟩ rfl ?_; (omega); (omega)) | (refine k_index rfl rfl rfl ⟨?_, ?_⟩ rfl ?_; (omega); (omega)) | refine k_loade rfl rfl rfl ?_ | (refine k_addi rfl rfl rfl ?_ ?_; (omega)) | (refine k_lssT rfl rfl rfl ?_ ?_; (omega)) | (refine k_lssF rfl rfl rfl ?_ ?_; (omega)) | refine W_yes rfl ?_ | refine W_no rfl ?_)
    -- the sums
    refine W_loop (fun n' ρ m nx => ∃ i : Nat, i ≤ 25 ∧ n' = 25 - i ∧ ρ = [(21, .int .i64 (i : Int)), (20, .agg (arr A 25)), (5, .ptr 2 0), (4, .int .u64 (wv kr)), (17, .int .i64 (r : Int)), (16, .agg (arr kf 24)), (2, .ptr 1 0), (1, .ptr 0 0)] ∧ m = [(2, some (.var 132 (arr (cI A i) 5))), (1, some (.var 107 (arr (fun _ => 0) 25))), (0, some (.var 107 (arr A 25)))] ∧ nx = 3)
      ⟨_, _, _, _, (by repeat (first | exact trivial | refine ⟨⟨rfl, rfl⟩, ?_⟩ | refine ⟨⟨rfl, bs_bel _ _⟩, ?_⟩ | refine ⟨⟨rfl, arr_bels _ _ _⟩, ?_⟩)), (by repeat (first | exact trivial | refine ⟨⟨rfl, rfl, rfl⟩, ?_⟩ | refine ⟨⟨rfl, rfl, bs_bels _ _⟩, ?_⟩ | refine ⟨⟨rfl, rfl, arr_bels _ _ _⟩, ?_⟩)), 0, by decide, rfl, rfl, rfl, rfl⟩ ?_
    rintro n' ρ m nx ⟨i, hi, rfl, rfl, rfl, rfl⟩
    by_cases hil : i < 25
    · have h5 := rem5 i
      have hA := arr_ix A 25 i hil
      have hc := arr_cut (cI A i) 5 (i % 5) (Nat.mod_lt _ (by decide))
      have hp := arr_put (cI A i) 5 (i % 5) (Nat.mod_lt _ (by decide)) (cI A i (i % 5) ^^^ A i)
      have hx := xor_wv (cI A i (i % 5)) (A i)
      have hm5 : i % 5 < 5 := Nat.mod_lt _ (by decide)
      have hn : upd (cI A i) (i % 5) (cI A i (i % 5) ^^^ A i) = cI A (i + 1) := rfl
      rw [hn] at hp
      clear hn
      generalize i % 5 = q at *
      repeat (first | with_reducible (first | refine W_seq ?_ | refine q_then ?_ | refine q_thenr ?_ | refine q_thenx ?_ | refine W_block ?_ | refine q_block ?_ | refine q_blockr ?_ | refine q_blockx ?_ | refine W_ret ?_ | refine W_skip ?_ | refine W_label ?_ | refine W_exit ?_ | refine W_scope ?_ | refine q_scope ?_ | refine q_scoper ?_ | refine q_scopex ?_) | (with_reducible refine R_nil ?_; try dsimp only [slots0, slots_ud, arr_len, arr_cls, arr_fzs, arr_bels, cells_U, agg_ud, drop0, dropS, takeS, take0, ud_nil, take_ud, take_ud0, drop_ud, drop_ud0, take_udk, D.cells, D.fz, D.fzs, List.take_succ_cons, List.take_zero, List.drop_succ_cons, List.drop_zero, List.cons_append, List.nil_append, List.append_eq, List.length_cons, List.length_nil, Nat.reduceAdd, Nat.reduceMul, Nat.reduceSub, Int.reduceAdd, Int.reduceSub, Int.reduceToNat, Int.reduceNeg, Int.reduceMul]) | refine q_blocky rfl ?_ | refine W_plain rfl ?_ | refine W_drawn mixed rfl ?_ | refine and_chk (by kernel_rfl) ?_ | refine k_move rfl rfl ?_ | refine k_assign rfl rfl ?_ | refine k_load rfl rfl rfl rfl ?_ | refine k_alloc rfl ?_ | refine k_box rfl rfl rfl ?_ | refine k_store rfl rfl rfl rfl rfl rfl rfl ?_ | (refine k_index rfl rfl rfl ⟨?_, ?_⟩ (by exact hA) ?_; (omega); (omega)) | (refine k_rem rfl rfl rfl ?_ h5 ?_; (decide)) | refine k_load rfl rfl rfl (by exact hc) ?_ | refine k_bits rfl rfl rfl rfl hx ?_ | refine k_store rfl rfl rfl rfl rfl rfl (by exact hp) ?_ | (refine k_indexAddr rfl rfl rfl ⟨?_, ?_⟩ ?_; (omega); (omega)) | (refine k_indexAddrs rfl rfl rfl ⟨?_, ?_⟩ rfl ?_; (omega); (omega)) | (refine k_index rfl rfl rfl ⟨?_, ?_⟩ rfl ?_; (omega); (omega)) | refine k_loade rfl rfl rfl ?_ | (refine k_addi rfl rfl rfl ?_ ?_; (omega)) | (refine k_lssT rfl rfl rfl ?_ ?_; (omega)) | (refine k_lssF rfl rfl rfl ?_ ?_; (omega)) | refine W_yes rfl ?_ | refine W_no rfl ?_)
      exact ⟨25 - (i + 1), _, _, _, (by repeat (first | exact trivial | refine ⟨⟨rfl, rfl⟩, ?_⟩ | refine ⟨⟨rfl, bs_bel _ _⟩, ?_⟩ | refine ⟨⟨rfl, arr_bels _ _ _⟩, ?_⟩)), (by repeat (first | exact trivial | refine ⟨⟨rfl, rfl, rfl⟩, ?_⟩ | refine ⟨⟨rfl, rfl, bs_bels _ _⟩, ?_⟩ | refine ⟨⟨rfl, rfl, arr_bels _ _ _⟩, ?_⟩)), by omega, i + 1, by omega, rfl, rfl, rfl, rfl⟩
    · have ei : i = 25 := by omega
      subst ei
      repeat (first | with_reducible (first | refine W_seq ?_ | refine q_then ?_ | refine q_thenr ?_ | refine q_thenx ?_ | refine W_block ?_ | refine q_block ?_ | refine q_blockr ?_ | refine q_blockx ?_ | refine W_ret ?_ | refine W_skip ?_ | refine W_label ?_ | refine W_exit ?_ | refine W_scope ?_ | refine q_scope ?_ | refine q_scoper ?_ | refine q_scopex ?_) | (with_reducible refine R_nil ?_; try dsimp only [slots0, slots_ud, arr_len, arr_cls, arr_fzs, arr_bels, cells_U, agg_ud, drop0, dropS, takeS, take0, ud_nil, take_ud, take_ud0, drop_ud, drop_ud0, take_udk, D.cells, D.fz, D.fzs, List.take_succ_cons, List.take_zero, List.drop_succ_cons, List.drop_zero, List.cons_append, List.nil_append, List.append_eq, List.length_cons, List.length_nil, Nat.reduceAdd, Nat.reduceMul, Nat.reduceSub, Int.reduceAdd, Int.reduceSub, Int.reduceToNat, Int.reduceNeg, Int.reduceMul]) | refine q_blocky rfl ?_ | refine W_plain rfl ?_ | refine W_drawn mixed rfl ?_ | refine and_chk (by kernel_rfl) ?_ | refine k_move rfl rfl ?_ | refine k_assign rfl rfl ?_ | refine k_load rfl rfl rfl rfl ?_ | refine k_alloc rfl ?_ | refine k_box rfl rfl rfl ?_ | refine k_store rfl rfl rfl rfl rfl rfl rfl ?_ | (refine k_indexAddr rfl rfl rfl ⟨?_, ?_⟩ ?_; (omega); (omega)) | (refine k_indexAddrs rfl rfl rfl ⟨?_, ?_⟩ rfl ?_; (omega); (omega)) | (refine k_index rfl rfl rfl ⟨?_, ?_⟩ rfl ?_; (omega); (omega)) | refine k_loade rfl rfl rfl ?_ | (refine k_addi rfl rfl rfl ?_ ?_; (omega)) | (refine k_lssT rfl rfl rfl ?_ ?_; (omega)) | (refine k_lssF rfl rfl rfl ?_ ?_; (omega)) | refine W_yes rfl ?_ | refine W_no rfl ?_)
      generalize hC : cI A 25 = C at *
      -- mixed and turned
      refine W_loop (fun n' ρ m nx => ∃ i : Nat, i ≤ 25 ∧ n' = 25 - i ∧ ρ = [(33, .int .i64 (i : Int)), (8, .ptr 3 0), (5, .ptr 2 0), (4, .int .u64 (wv kr)), (17, .int .i64 (r : Int)), (16, .agg (arr kf 24)), (2, .ptr 1 0), (1, .ptr 0 0)] ∧ m = [(3, some (.var 107 (arr (bI (tI A) i) 25))), (2, some (.var 132 (arr C 5))), (1, some (.var 107 (arr (fun _ => 0) 25))), (0, some (.var 107 (arr A 25)))] ∧ nx = 4)
        ⟨_, _, _, _, (by repeat (first | exact trivial | refine ⟨⟨rfl, rfl⟩, ?_⟩ | refine ⟨⟨rfl, bs_bel _ _⟩, ?_⟩ | refine ⟨⟨rfl, arr_bels _ _ _⟩, ?_⟩)), (by repeat (first | exact trivial | refine ⟨⟨rfl, rfl, rfl⟩, ?_⟩ | refine ⟨⟨rfl, rfl, bs_bels _ _⟩, ?_⟩ | refine ⟨⟨rfl, rfl, arr_bels _ _ _⟩, ?_⟩)), 0, by decide, rfl, rfl, rfl, rfl⟩ ?_
      rintro n' ρ m nx ⟨i, hi, rfl, rfl, rfl, rfl⟩
      by_cases hil : i < 25
      · have hm5 : i % 5 < 5 := Nat.mod_lt _ (by decide)
        have hd5 : i / 5 < 5 := by omega
        have h5 := rem5 i
        have hq := quo5 i (by omega)
        have h4 := rem5a (i % 5) 4
        have h1 := rem5a (i % 5) 1
        have hA := arr_cut A 25 i hil
        have hc4 := arr_cut C 5 ((i % 5 + 4) % 5) (Nat.mod_lt _ (by decide))
        have hc1 := arr_cut C 5 ((i % 5 + 1) % 5) (Nat.mod_lt _ (by decide))
        have hx1 := xor_wv (A i) (C ((i % 5 + 4) % 5))
        have hr1 : Pur Tryd.prog 80 [.int .u64 (wv (C ((i % 5 + 1) % 5))), .int .i64 1] (.int .u64 (wv (rl (C ((i % 5 + 1) % 5)) 1))) := rot_ok _ 1 (by decide)
        have hx2 := xor_wv (A i ^^^ C ((i % 5 + 4) % 5)) (rl (C ((i % 5 + 1) % 5)) 1)
        have hti : A i ^^^ C ((i % 5 + 4) % 5) ^^^ rl (C ((i % 5 + 1) % 5)) 1 = tI A i := by unfold tI; rw [hC]
        rw [hti] at hx2
        have hrt := rot_ok (tI A i) (turnAt i) (turnAt_lt i hil)
        have htt := tt_cut i hil
        have m2 : IntKind.i64.wrap (2 * ((i % 5 : Nat) : Int)) = ((2 * (i % 5) : Nat) : Int) := mulc 2 _ (by omega) (by omega)
        have m3 : IntKind.i64.wrap (3 * ((i / 5 : Nat) : Int)) = ((3 * (i / 5) : Nat) : Int) := mulc 3 _ (by omega) (by omega)
        have m23 := rem5a (2 * (i % 5)) (3 * (i / 5))
        have m5 : IntKind.i64.wrap (5 * (((2 * (i % 5) + 3 * (i / 5)) % 5 : Nat) : Int)) = ((5 * ((2 * (i % 5) + 3 * (i / 5)) % 5) : Nat) : Int) := mulc 5 _ (by omega) (by omega)
        have hgo : ((i / 5 : Nat) : Int) + ((5 * ((2 * (i % 5) + 3 * (i / 5)) % 5) : Nat) : Int) = ((goes i : Nat) : Int) := by unfold goes; push_cast; rfl
        have hgl := (comes_goes i hil).2
        have hp := arr_put (bI (tI A) i) 25 (goes i) hgl (rl (tI A i) (turnAt i))
        have hn : upd (bI (tI A) i) (goes i) (rl (tI A i) (turnAt i)) = bI (tI A) (i + 1) := rfl
        rw [hn, ← hgo] at hp
        clear hn
        have hw23 : (2 * (i % 5) + 3 * (i / 5)) % 5 < 5 := Nat.mod_lt _ (by decide)
        have hl4 : (i % 5 + 4) % 5 < 5 := Nat.mod_lt _ (by decide)
        have hl1 : (i % 5 + 1) % 5 < 5 := Nat.mod_lt _ (by decide)
        generalize (2 * (i % 5) + 3 * (i / 5)) % 5 = q23 at *
        generalize (i % 5 + 4) % 5 = q4 at *
        generalize (i % 5 + 1) % 5 = q1 at *
        generalize i % 5 = q at *
        generalize i / 5 = y at *
        generalize goes i = gi at *
        generalize turnAt i = ti at *
        generalize tI A i = V at *
        repeat (first | with_reducible (first | refine W_seq ?_ | refine q_then ?_ | refine q_thenr ?_ | refine q_thenx ?_ | refine W_block ?_ | refine q_block ?_ | refine q_blockr ?_ | refine q_blockx ?_ | refine W_ret ?_ | refine W_skip ?_ | refine W_label ?_ | refine W_exit ?_ | refine W_scope ?_ | refine q_scope ?_ | refine q_scoper ?_ | refine q_scopex ?_) | (with_reducible refine R_nil ?_; try dsimp only [slots0, slots_ud, arr_len, arr_cls, arr_fzs, arr_bels, cells_U, agg_ud, drop0, dropS, takeS, take0, ud_nil, take_ud, take_ud0, drop_ud, drop_ud0, take_udk, D.cells, D.fz, D.fzs, List.take_succ_cons, List.take_zero, List.drop_succ_cons, List.drop_zero, List.cons_append, List.nil_append, List.append_eq, List.length_cons, List.length_nil, Nat.reduceAdd, Nat.reduceMul, Nat.reduceSub, Int.reduceAdd, Int.reduceSub, Int.reduceToNat, Int.reduceNeg, Int.reduceMul]) | refine q_blocky rfl ?_ | refine W_plain rfl ?_ | refine W_drawn mixed rfl ?_ | refine and_chk (by kernel_rfl) ?_ | refine k_move rfl rfl ?_ | refine k_assign rfl rfl ?_ | refine k_load rfl rfl rfl rfl ?_ | refine k_alloc rfl ?_ | refine k_box rfl rfl rfl ?_ | refine k_store rfl rfl rfl rfl rfl rfl rfl ?_ | (refine k_rem rfl rfl rfl ?_ h5 ?_; (decide)) | (refine k_quo rfl rfl rfl ?_ hq ?_; (decide)) | (refine k_rem rfl rfl rfl ?_ h4 ?_; (decide)) | (refine k_rem rfl rfl rfl ?_ h1 ?_; (decide)) | refine k_load rfl rfl rfl (by exact hA) ?_ | refine k_load rfl rfl rfl (by exact hc4) ?_ | refine k_load rfl rfl rfl (by exact hc1) ?_ | refine k_bits rfl rfl rfl rfl hx1 ?_ | refine k_bits rfl rfl rfl rfl hx2 ?_ | refine k_call rfl hr1 rfl rfl rfl rfl ?_ | refine k_mul rfl rfl rfl m2 ?_ | refine k_mul rfl rfl rfl m3 ?_ | (refine k_rem rfl rfl rfl ?_ m23 ?_; (decide)) | refine k_mul rfl rfl rfl m5 ?_ | (refine k_indexAddrg rfl rfl rfl ⟨?_, ?_⟩ ?_; (omega); (omega)) | refine k_loadg rfl rfl gm1 ov1 (by exact htt) ?_ | refine k_call rfl hrt rfl rfl rfl rfl ?_ | refine k_store rfl rfl rfl rfl rfl rfl (by exact hp) ?_ | (refine k_indexAddr rfl rfl rfl ⟨?_, ?_⟩ ?_; (omega); (omega)) | (refine k_indexAddrs rfl rfl rfl ⟨?_, ?_⟩ rfl ?_; (omega); (omega)) | (refine k_index rfl rfl rfl ⟨?_, ?_⟩ rfl ?_; (omega); (omega)) | refine k_loade rfl rfl rfl ?_ | (refine k_addi rfl rfl rfl ?_ ?_; (omega)) | (refine k_lssT rfl rfl rfl ?_ ?_; (omega)) | (refine k_lssF rfl rfl rfl ?_ ?_; (omega)) | refine W_yes rfl ?_ | refine W_no rfl ?_)
        exact ⟨25 - (i + 1), _, _, _, (by repeat (first | exact trivial | refine ⟨⟨rfl, rfl⟩, ?_⟩ | refine ⟨⟨rfl, bs_bel _ _⟩, ?_⟩ | refine ⟨⟨rfl, arr_bels _ _ _⟩, ?_⟩)), (by repeat (first | exact trivial | refine ⟨⟨rfl, rfl, rfl⟩, ?_⟩ | refine ⟨⟨rfl, rfl, bs_bels _ _⟩, ?_⟩ | refine ⟨⟨rfl, rfl, arr_bels _ _ _⟩, ?_⟩)), by omega, i + 1, by omega, rfl, rfl, rfl, rfl⟩
      · have ei : i = 25 := by omega
        subst ei
        repeat (first | with_reducible (first | refine W_seq ?_ | refine q_then ?_ | refine q_thenr ?_ | refine q_thenx ?_ | refine W_block ?_ | refine q_block ?_ | refine q_blockr ?_ | refine q_blockx ?_ | refine W_ret ?_ | refine W_skip ?_ | refine W_label ?_ | refine W_exit ?_ | refine W_scope ?_ | refine q_scope ?_ | refine q_scoper ?_ | refine q_scopex ?_) | (with_reducible refine R_nil ?_; try dsimp only [slots0, slots_ud, arr_len, arr_cls, arr_fzs, arr_bels, cells_U, agg_ud, drop0, dropS, takeS, take0, ud_nil, take_ud, take_ud0, drop_ud, drop_ud0, take_udk, D.cells, D.fz, D.fzs, List.take_succ_cons, List.take_zero, List.drop_succ_cons, List.drop_zero, List.cons_append, List.nil_append, List.append_eq, List.length_cons, List.length_nil, Nat.reduceAdd, Nat.reduceMul, Nat.reduceSub, Int.reduceAdd, Int.reduceSub, Int.reduceToNat, Int.reduceNeg, Int.reduceMul]) | refine q_blocky rfl ?_ | refine W_plain rfl ?_ | refine W_drawn mixed rfl ?_ | refine and_chk (by kernel_rfl) ?_ | refine k_move rfl rfl ?_ | refine k_assign rfl rfl ?_ | refine k_load rfl rfl rfl rfl ?_ | refine k_alloc rfl ?_ | refine k_box rfl rfl rfl ?_ | refine k_store rfl rfl rfl rfl rfl rfl rfl ?_ | (refine k_indexAddr rfl rfl rfl ⟨?_, ?_⟩ ?_; (omega); (omega)) | (refine k_indexAddrs rfl rfl rfl ⟨?_, ?_⟩ rfl ?_; (omega); (omega)) | (refine k_index rfl rfl rfl ⟨?_, ?_⟩ rfl ?_; (omega); (omega)) | refine k_loade rfl rfl rfl ?_ | (refine k_addi rfl rfl rfl ?_ ?_; (omega)) | (refine k_lssT rfl rfl rfl ?_ ?_; (omega)) | (refine k_lssF rfl rfl rfl ?_ ?_; (omega)) | refine W_yes rfl ?_ | refine W_no rfl ?_)
        generalize hB : bI (tI A) 25 = F at *
        -- row by row
        refine W_loop (fun n' ρ m nx => ∃ i : Nat, i ≤ 25 ∧ n' = 25 - i ∧ ρ = [(72, .int .i64 (i : Int)), (8, .ptr 3 0), (4, .int .u64 (wv kr)), (17, .int .i64 (r : Int)), (16, .agg (arr kf 24)), (2, .ptr 1 0), (1, .ptr 0 0)] ∧ m = [(3, some (.var 107 (arr F 25))), (1, some (.var 107 (arr (fun _ => 0) 25))), (0, some (.var 107 (arr (aI F A i) 25)))] ∧ nx = 4)
          ⟨_, _, _, _, (by repeat (first | exact trivial | refine ⟨⟨rfl, rfl⟩, ?_⟩ | refine ⟨⟨rfl, bs_bel _ _⟩, ?_⟩ | refine ⟨⟨rfl, arr_bels _ _ _⟩, ?_⟩)), (by repeat (first | exact trivial | refine ⟨⟨rfl, rfl, rfl⟩, ?_⟩ | refine ⟨⟨rfl, rfl, bs_bels _ _⟩, ?_⟩ | refine ⟨⟨rfl, rfl, arr_bels _ _ _⟩, ?_⟩)), 0, by decide, rfl, rfl, rfl, rfl⟩ ?_
        rintro n' ρ m nx ⟨i, hi, rfl, rfl, rfl, rfl⟩
        by_cases hil : i < 25
        · have hm5 : i % 5 < 5 := Nat.mod_lt _ (by decide)
          have hd5 : i / 5 < 5 := by omega
          have h5 := rem5 i
          have hq := quo5 i (by omega)
          have h1 := rem5a (i % 5) 1
          have h2 := rem5a (i % 5) 2
          have m5 : IntKind.i64.wrap (5 * ((i / 5 : Nat) : Int)) = ((5 * (i / 5) : Nat) : Int) := mulc 5 _ (by omega) (by omega)
          have e1 : (((i % 5 + 1) % 5 : Nat) : Int) + ((5 * (i / 5) : Nat) : Int) = (((i % 5 + 1) % 5 + 5 * (i / 5) : Nat) : Int) := by push_cast; rfl
          have e2 : (((i % 5 + 2) % 5 : Nat) : Int) + ((5 * (i / 5) : Nat) : Int) = (((i % 5 + 2) % 5 + 5 * (i / 5) : Nat) : Int) := by push_cast; rfl
          have hF := arr_cut F 25 i hil
          have hF1 := arr_cut F 25 ((i % 5 + 1) % 5 + 5 * (i / 5)) (by omega)
          have hF2 := arr_cut F 25 ((i % 5 + 2) % 5 + 5 * (i / 5)) (by omega)
          have hco := com_wv (F ((i % 5 + 1) % 5 + 5 * (i / 5)))
          have han := and_wv (~~~ F ((i % 5 + 1) % 5 + 5 * (i / 5))) (F ((i % 5 + 2) % 5 + 5 * (i / 5)))
          have hxo := xor_wv (F i) (~~~ F ((i % 5 + 1) % 5 + 5 * (i / 5)) &&& F ((i % 5 + 2) % 5 + 5 * (i / 5)))
          have hch : F i ^^^ (~~~ F ((i % 5 + 1) % 5 + 5 * (i / 5)) &&& F ((i % 5 + 2) % 5 + 5 * (i / 5))) = chi F i := rfl
          rw [hch] at hxo
          clear hch
          have hp := arr_put (aI F A i) 25 i hil (chi F i)
          have hn : upd (aI F A i) i (chi F i) = aI F A (i + 1) := rfl
          rw [hn] at hp
          clear hn
          rw [← e1] at hF1
          rw [← e2] at hF2
          have b1 : (i % 5 + 1) % 5 + 5 * (i / 5) < 25 := by omega
          have b2 : (i % 5 + 2) % 5 + 5 * (i / 5) < 25 := by omega
          have hl2 : (i % 5 + 2) % 5 < 5 := Nat.mod_lt _ (by decide)
          have hl1 : (i % 5 + 1) % 5 < 5 := Nat.mod_lt _ (by decide)
          generalize F ((i % 5 + 1) % 5 + 5 * (i / 5)) = X1 at *
          generalize F ((i % 5 + 2) % 5 + 5 * (i / 5)) = X2 at *
          generalize chi F i = V at *
          generalize (i % 5 + 2) % 5 = q2 at *
          generalize (i % 5 + 1) % 5 = q1 at *
          generalize i % 5 = q at *
          generalize i / 5 = y at *
          repeat (first | with_reducible (first | refine W_seq ?_ | refine q_then ?_ | refine q_thenr ?_ | refine q_thenx ?_ | refine W_block ?_ | refine q_block ?_ | refine q_blockr ?_ | refine q_blockx ?_ | refine W_ret ?_ | refine W_skip ?_ | refine W_label ?_ | refine W_exit ?_ | refine W_scope ?_ | refine q_scope ?_ | refine q_scoper ?_ | refine q_scopex ?_) | (with_reducible refine R_nil ?_; try dsimp only [slots0, slots_ud, arr_len, arr_cls, arr_fzs, arr_bels, cells_U, agg_ud, drop0, dropS, takeS, take0, ud_nil, take_ud, take_ud0, drop_ud, drop_ud0, take_udk, D.cells, D.fz, D.fzs, List.take_succ_cons, List.take_zero, List.drop_succ_cons, List.drop_zero, List.cons_append, List.nil_append, List.append_eq, List.length_cons, List.length_nil, Nat.reduceAdd, Nat.reduceMul, Nat.reduceSub, Int.reduceAdd, Int.reduceSub, Int.reduceToNat, Int.reduceNeg, Int.reduceMul]) | refine q_blocky rfl ?_ | refine W_plain rfl ?_ | refine W_drawn mixed rfl ?_ | refine and_chk (by kernel_rfl) ?_ | refine k_move rfl rfl ?_ | refine k_assign rfl rfl ?_ | refine k_load rfl rfl rfl rfl ?_ | refine k_alloc rfl ?_ | refine k_box rfl rfl rfl ?_ | refine k_store rfl rfl rfl rfl rfl rfl rfl ?_ | (refine k_rem rfl rfl rfl ?_ h5 ?_; (decide)) | (refine k_quo rfl rfl rfl ?_ hq ?_; (decide)) | (refine k_rem rfl rfl rfl ?_ h1 ?_; (decide)) | (refine k_rem rfl rfl rfl ?_ h2 ?_; (decide)) | refine k_load rfl rfl rfl (by exact hF) ?_ | refine k_load rfl rfl rfl (by exact hF1) ?_ | refine k_load rfl rfl rfl (by exact hF2) ?_ | refine k_com rfl rfl hco ?_ | refine k_bits rfl rfl rfl rfl han ?_ | refine k_bits rfl rfl rfl rfl hxo ?_ | refine k_mul rfl rfl rfl m5 ?_ | refine k_store rfl rfl rfl rfl rfl rfl (by exact hp) ?_ | (refine k_indexAddr rfl rfl rfl ⟨?_, ?_⟩ ?_; (omega); (omega)) | (refine k_indexAddrs rfl rfl rfl ⟨?_, ?_⟩ rfl ?_; (omega); (omega)) | (refine k_index rfl rfl rfl ⟨?_, ?_⟩ rfl ?_; (omega); (omega)) | refine k_loade rfl rfl rfl ?_ | (refine k_addi rfl rfl rfl ?_ ?_; (omega)) | (refine k_lssT rfl rfl rfl ?_ ?_; (omega)) | (refine k_lssF rfl rfl rfl ?_ ?_; (omega)) | refine W_yes rfl ?_ | refine W_no rfl ?_)
          exact ⟨25 - (i + 1), _, _, _, (by repeat (first | exact trivial | refine ⟨⟨rfl, rfl⟩, ?_⟩ | refine ⟨⟨rfl, bs_bel _ _⟩, ?_⟩ | refine ⟨⟨rfl, arr_bels _ _ _⟩, ?_⟩)), (by repeat (first | exact trivial | refine ⟨⟨rfl, rfl, rfl⟩, ?_⟩ | refine ⟨⟨rfl, rfl, bs_bels _ _⟩, ?_⟩ | refine ⟨⟨rfl, rfl, arr_bels _ _ _⟩, ?_⟩)), by omega, i + 1, by omega, rfl, rfl, rfl, rfl⟩
        · have ei : i = 25 := by omega
          subst ei
          have hL := arr_cut (aI F A 25) 25 0 (by decide)
          have hp := arr_put (aI F A 25) 25 0 (by decide) (aI F A 25 0 ^^^ kr)
          have hx := xor_wv (aI F A 25 0) kr
          have hn : upd (aI F A 25) 0 (aI F A 25 0 ^^^ kr) = rI kr A := by unfold rI; rw [hB]
          rw [hn, hfin] at hp
          generalize aI F A 25 = Z at *
          repeat (first | with_reducible (first | refine W_seq ?_ | refine q_then ?_ | refine q_thenr ?_ | refine q_thenx ?_ | refine W_block ?_ | refine q_block ?_ | refine q_blockr ?_ | refine q_blockx ?_ | refine W_ret ?_ | refine W_skip ?_ | refine W_label ?_ | refine W_exit ?_ | refine W_scope ?_ | refine q_scope ?_ | refine q_scoper ?_ | refine q_scopex ?_) | (with_reducible refine R_nil ?_; try dsimp only [slots0, slots_ud, arr_len, arr_cls, arr_fzs, arr_bels, cells_U, agg_ud, drop0, dropS, takeS, take0, ud_nil, take_ud, take_ud0, drop_ud, drop_ud0, take_udk, D.cells, D.fz, D.fzs, List.take_succ_cons, List.take_zero, List.drop_succ_cons, List.drop_zero, List.cons_append, List.nil_append, List.append_eq, List.length_cons, List.length_nil, Nat.reduceAdd, Nat.reduceMul, Nat.reduceSub, Int.reduceAdd, Int.reduceSub, Int.reduceToNat, Int.reduceNeg, Int.reduceMul]) | refine q_blocky rfl ?_ | refine W_plain rfl ?_ | refine W_drawn mixed rfl ?_ | refine and_chk (by kernel_rfl) ?_ | refine k_move rfl rfl ?_ | refine k_assign rfl rfl ?_ | refine k_load rfl rfl rfl rfl ?_ | refine k_alloc rfl ?_ | refine k_box rfl rfl rfl ?_ | refine k_store rfl rfl rfl rfl rfl rfl rfl ?_ | refine k_load rfl rfl rfl (by exact hL) ?_ | refine k_bits rfl rfl rfl rfl hx ?_ | refine k_store rfl rfl rfl rfl rfl rfl (by exact hp) ?_ | (refine k_indexAddr rfl rfl rfl ⟨?_, ?_⟩ ?_; (omega); (omega)) | (refine k_indexAddrs rfl rfl rfl ⟨?_, ?_⟩ rfl ?_; (omega); (omega)) | (refine k_index rfl rfl rfl ⟨?_, ?_⟩ rfl ?_; (omega); (omega)) | refine k_loade rfl rfl rfl ?_ | (refine k_addi rfl rfl rfl ?_ ?_; (omega)) | (refine k_lssT rfl rfl rfl ?_ ?_; (omega)) | (refine k_lssF rfl rfl rfl ?_ ?_; (omega)) | refine W_yes rfl ?_ | refine W_no rfl ?_)
          exact ⟨24 - (r + 1), _, _, _, (by repeat (first | exact trivial | refine ⟨⟨rfl, rfl⟩, ?_⟩ | refine ⟨⟨rfl, bs_bel _ _⟩, ?_⟩ | refine ⟨⟨rfl, arr_bels _ _ _⟩, ?_⟩)), (by exact ⟨⟨rfl, rfl, arr_bels _ _ _⟩, ⟨congrArg (fun z => some (Loc.var 107 z)) (Option.some.inj hp), rfl, arr_bels _ _ _⟩, trivial⟩), by omega, r + 1, by omega, rfl, rfl, rfl, rfl⟩
  · have er : r = 24 := by omega
    subst er
    have hk : kons.take 24 = kons := rfl
    rw [hk]
    repeat (first | with_reducible (first | refine W_seq ?_ | refine q_then ?_ | refine q_thenr ?_ | refine q_thenx ?_ | refine W_block ?_ | refine q_block ?_ | refine q_blockr ?_ | refine q_blockx ?_ | refine W_ret ?_ | refine W_skip ?_ | refine W_label ?_ | refine W_exit ?_ | refine W_scope ?_ | refine q_scope ?_ | refine q_scoper ?_ | refine q_scopex ?_) | (with_reducible refine R_nil ?_; try dsimp only [slots0, slots_ud, arr_len, arr_cls, arr_fzs, arr_bels, cells_U, agg_ud, drop0, dropS, takeS, take0, ud_nil, take_ud, take_ud0, drop_ud, drop_ud0, take_udk, D.cells, D.fz, D.fzs, List.take_succ_cons, List.take_zero, List.drop_succ_cons, List.drop_zero, List.cons_append, List.nil_append, List.append_eq, List.length_cons, List.length_nil, Nat.reduceAdd, Nat.reduceMul, Nat.reduceSub, Int.reduceAdd, Int.reduceSub, Int.reduceToNat, Int.reduceNeg, Int.reduceMul]) | refine q_blocky rfl ?_ | refine W_plain rfl ?_ | refine W_drawn mixed rfl ?_ | refine and_chk (by kernel_rfl) ?_ | refine k_move rfl rfl ?_ | refine k_assign rfl rfl ?_ | refine k_load rfl rfl rfl rfl ?_ | refine k_alloc rfl ?_ | refine k_box rfl rfl rfl ?_ | refine k_store rfl rfl rfl rfl rfl rfl rfl ?_ | refine k_load rfl rfl rfl (arr_whole _ _ _) ?_ | refine k_store rfl rfl rfl rfl (arr_len _ _) rfl (by exact arr_lay _ _ _ (arr_len _ _)) ?_ | (refine k_indexAddr rfl rfl rfl ⟨?_, ?_⟩ ?_; (omega); (omega)) | (refine k_indexAddrs rfl rfl rfl ⟨?_, ?_⟩ rfl ?_; (omega); (omega)) | (refine k_index rfl rfl rfl ⟨?_, ?_⟩ rfl ?_; (omega); (omega)) | refine k_loade rfl rfl rfl ?_ | (refine k_addi rfl rfl rfl ?_ ?_; (omega)) | (refine k_lssT rfl rfl rfl ?_ ?_; (omega)) | (refine k_lssF rfl rfl rfl ?_ ?_; (omega)) | refine W_yes rfl ?_ | refine W_no rfl ?_)
    (first | with_reducible refine q_endr ?_ | with_reducible refine q_endn ?_); refine rets1 Tryd.results79 (RetV.cell _ _ _ _ _ _ _ _ inferInstance rfl rfl (by exact arr_whole _ _ _)) ?_
    show D.agg (D.fzs (arr (turn kons a) 25)) = _
    rw [arr_fzs]
end Go.Proofs.YtpdhbddkcnffbaaDoor

namespace Go.Proofs.YtpdhbddkcnffbaaDoor
open Go.RowKit
set_option linter.unusedVariables false
set_option linter.unusedVariables false
set_option linter.unusedSimpArgs false
mutual
/-- what names nothing lies below any name -/
theorem bel_cl (n : Nat) : ∀ (d : D), d.cl = true → d.bel n = true
  | .agg cs, h => by simp only [D.cl] at h; simp only [D.bel]; exact bels_cls n cs h
  | .tup cs, h => by simp only [D.cl] at h; simp only [D.bel]; exact bels_cls n cs h
  | .fn f cs, h => by simp only [D.cl] at h; simp only [D.bel]; exact bels_cls n cs h
  | .slice tk k cs, h => by cases tk <;> simp [D.cl] at h <;> rfl
  | .ptr l off, h => by simp [D.cl] at h
  | .ms l off k, h => by simp [D.cl] at h
  | .rs l k, h => by simp [D.cl] at h
  | .mp l, h => by simp [D.cl] at h
  | .int _ _, _ => rfl
  | .bool _, _ => rfl
  | .str _, _ => rfl
  | .eptr _, _ => rfl
  | .raw _, _ => rfl
  | .opq, _ => rfl
  | .undef, _ => rfl
theorem bels_cls (n : Nat) : ∀ (ds : List D), D.cls ds = true → D.bels n ds = true
  | [], _ => rfl
  | d :: ds, h => by
    simp only [D.cls, Bool.and_eq_true] at h
    simp only [D.bels, bel_cl n d h.1, bels_cls n ds h.2, Bool.and_self]
end
section
variable {P : Program} {o : Oper} {ρ : Slots} {m : Mem}
theorem r_indexAddrM {T : TypeId} {x ix : Operand} {E : TypeId} {ty : Ty} [ha : HasSl P T E] [ht : HasTy P E ty] {l off n : Nat} {k : IntKind} {j : Int} (ho : o.op = .indexAddr T x ix) (hx : oev ρ x = some (.ms l off n)) (hix : oev ρ ix = some (.int k j)) (hj : 0 ≤ j ∧ j < n) : OpSound P o (Eff.val (.ptr l (off + j.toNat * ty.size))) ρ m := by
  refine sound_val fun B G a w m' hs h _ => ?_
  have hp := h x (by simp [ho, Op.operands]) _ hx
  have hq := h ix (by simp [ho, Op.operands]) _ hix
  generalize hev : a.eval x = vx at hp
  generalize hevi : a.eval ix = vi at hq
  cases hq
  cases hp with
  | ms l off n cap hk hn =>
    obtain ⟨i, hi, hsi⟩ := Option.map_eq_some_iff.1 ht.size
    refine ⟨.pointer (some ⟨G.g l, off + j.toNat * ty.size, none⟩), ?_, .ptr l _ hk⟩
    simp [execOp, ho, hev, hevi, Instr.indexAt, Instr.sureAddr, Sem.run_bind, run_underlying ha.sl, asIntOf, hj.1, hj.2, sizeOf, typeInfo, hi, hsi, add_off]
theorem r_lenM {x : Operand} {t E : TypeId} [ha : HasSl P t E] {l off n : Nat} (ho : o.op = .call { callee := .builtin .len, args := #[x], argTypes := #[t] }) (hx : oev ρ x = some (.ms l off n)) : OpSound P o (Eff.val (.int .i64 n)) ρ m := by
  refine sound_val fun B G a w m' _ hh _ => ?_
  have hp := hh x (by simp [ho, Op.operands, Call.operands]) _ hx
  generalize hev : a.eval x = vx at hp
  refine ⟨.int .i64 n, run_len_ ho hev ?_, .int _ _⟩
  cases hp <;> simp [Builtin.len_, Sem.run_bind, run_underlying ha.sl, goInt]
end
section
variable {P : Program} {ρ : Slots} {m : Mem} {nx : Nat} {ops : Array Oper} {os : List Oper} {K : List Eff → Slots → Mem → Nat → Prop}
theorem k_indexAddrM {t : Tmp} {T : TypeId} {x ix : Operand} {E : TypeId} {ty : Ty} [HasSl P T E] [HasTy P E ty] {l off n : Nat} {k : IntKind} {j : Int} {V : TypeId} {pos : String} {af : Array Edge} {gd : Option (Nat × Bool)} (hg : gok ops ρ ⟨some t, .indexAddr T x ix, V, pos, af, gd⟩ = some true)
    (hx : oev ρ x = some (.ms l off n)) (hix : oev ρ ix = some (.int k j)) (hj : 0 ≤ j ∧ j < n)
    (hh : R P ops os (fun Es => K (Eff.val (.ptr l (off + j.toNat * ty.size)) :: Es)) ((t, .ptr l (off + j.toNat * ty.size)) :: ρ) m nx) : R P ops (⟨some t, .indexAddr T x ix, V, pos, af, gd⟩ :: os) K ρ m nx := R_cons hg (r_indexAddrM rfl hx hix hj) rfl hh
theorem k_lenM {t : Tmp} {T E : TypeId} [HasSl P T E] {x : Operand} {l off n : Nat} {V : TypeId} {pos : String} {af : Array Edge} {gd : Option (Nat × Bool)} (hg : gok ops ρ ⟨some t, .call { callee := .builtin .len, args := #[x], argTypes := #[T] }, V, pos, af, gd⟩ = some true) (hx : oev ρ x = some (.ms l off n)) (hh : R P ops os (fun Es => K (Eff.val ((.int .i64 n)) :: Es)) ((t, (.int .i64 n)) :: ρ) m nx) :
    R P ops (⟨some t, .call { callee := .builtin .len, args := #[x], argTypes := #[T] }, V, pos, af, gd⟩ :: os) K ρ m nx := R_cons hg (r_lenM rfl hx) rfl hh
end
end Go.Proofs.YtpdhbddkcnffbaaDoor

namespace Go.Proofs.YtpdhbddkcnffbaaDoor
open Go.RowKit Go.IntWalk Kec
set_option linter.unusedVariables false
set_option linter.unusedVariables false
set_option maxRecDepth 100000
--nrm arr_len arr_cls arr_fzs arr_bels

/-- what is held: some bytes, and noughts -/
def hld (l : List UInt8) : List UInt8 := l ++ List.replicate (136 - l.length) 0
theorem hld_len (l : List UInt8) (h : l.length ≤ 136) : (hld l).length = 136 := by simp [hld]; omega
def spC (f : S) (h : List UInt8) (n : Nat) : List D := arr f 25 ++ (bs h ++ [.int .i64 (n : Int)])
theorem spC_len (f : S) (h : List UInt8) (n : Nat) (hh : h.length = 136) : (spC f h n).length = 162 := by
  unfold spC; rw [List.length_append, List.length_append, arr_len, bs_len, hh]; rfl
theorem spC_cls (f : S) (h : List UInt8) (n : Nat) : D.cls (spC f h n) = true := D.cls_of fun d hd => by
  unfold spC at hd
  rcases List.mem_append.1 hd with h | h
  · exact D.cls_mem (arr_cls f 25) d h
  · rcases List.mem_append.1 h with h | h
    · exact D.cls_mem (bs_cl _) d h
    · simp at h; subst h; rfl
theorem fzs_append : ∀ (a b : List D), D.fzs (a ++ b) = D.fzs a ++ D.fzs b
  | [], b => rfl
  | d :: a, b => by show d.fz :: D.fzs (a ++ b) = _; rw [fzs_append a b]; rfl
theorem bs_fzs' : ∀ (l : List UInt8), D.fzs (bs l) = bs l
  | [] => rfl
  | a :: l => by
    show (D.int .u8 (a.toNat : Int)).fz :: D.fzs (bs l) = _
    rw [bs_fzs' l]; rfl
theorem spC_fzs (f : S) (h : List UInt8) (n : Nat) : D.fzs (spC f h n) = spC f h n := by
  unfold spC; rw [fzs_append, fzs_append, arr_fzs, bs_fzs']; rfl
/-- the three fields -/
theorem spC_lanes (f : S) (h : List UInt8) (n : Nat) (ze : List D) : cut ⟨true, 25, ze⟩ 0 (spC f h n) = some (.agg (arr f 25)) := by
  unfold cut spC
  simp only [cond_true, Nat.zero_add, List.drop_zero]
  rw [Nat.ble_eq_true_of_le (by rw [List.length_append, arr_len]; omega), cond_true, List.take_append_of_le_length (by rw [arr_len]; omega), List.take_of_length_le (by rw [arr_len]; omega)]
theorem spC_held (f : S) (h : List UInt8) (n : Nat) (hh : h.length = 136) (ze : List D) : cut ⟨true, 136, ze⟩ 25 (spC f h n) = some (.agg (bs h)) := by
  unfold cut spC
  simp only [cond_true]
  rw [Nat.ble_eq_true_of_le (by rw [List.length_append, arr_len, List.length_append, bs_len, hh]; omega), cond_true]
  have : (arr f 25 ++ (bs h ++ [D.int .i64 (n : Int)])).drop 25 = bs h ++ [D.int .i64 (n : Int)] := by
    rw [List.drop_append_of_le_length (by rw [arr_len]; omega), List.drop_of_length_le (by rw [arr_len]; omega)]; rfl
  rw [this, List.take_append_of_le_length (by rw [bs_len, hh]; omega), List.take_of_length_le (by rw [bs_len, hh]; omega)]
theorem spC_at (f : S) (h : List UInt8) (n k : Nat) (hh : h.length = 136) (hk : k < 136) : (spC f h n)[25 + k]? = some (.int .u8 ((h.getD k 0).toNat : Int)) := by
  unfold spC
  rw [List.getElem?_append_right (by rw [arr_len]; omega), arr_len, show 25 + k - 25 = k from by omega, List.getElem?_append_left (by rw [bs_len, hh]; omega)]
  refine bs_get h k _ ?_
  rw [List.getD_eq_getElem?_getD, List.getElem?_eq_getElem (by omega)]; rfl
theorem spC_n (f : S) (h : List UInt8) (n : Nat) (hh : h.length = 136) (ze : List D) : cut ⟨false, 1, ze⟩ 161 (spC f h n) = some (.int .i64 (n : Int)) := by
  unfold cut spC
  rw [cond_false, List.getElem?_append_right (by rw [arr_len]; omega), arr_len, List.getElem?_append_right (by rw [bs_len, hh]; omega), bs_len, hh]; rfl
theorem spC_lane (f : S) (h : List UInt8) (n k : Nat) (hk : k < 25) (ze : List D) : cut ⟨false, 1, ze⟩ (0 + ((k : Nat) : Int).toNat * 1) (spC f h n) = some (.int .u64 (wv (f k))) := by
  unfold cut spC
  rw [Int.toNat_natCast, Nat.zero_add, Nat.mul_one, cond_false, List.getElem?_append_left (by rw [arr_len]; exact hk), arr_get f 25 k hk]
theorem spC_putlane (f : S) (h : List UInt8) (n k : Nat) (hk : k < 25) (v : Kec.W) : splice (0 + ((k : Nat) : Int).toNat * 1) [D.int .u64 (wv v)] (spC f h n) = some (spC (upd f k v) h n) := by
  have hp := arr_put f 25 k hk v
  rw [Int.toNat_natCast, Nat.zero_add, Nat.mul_one] at hp ⊢
  unfold splice at hp ⊢
  rw [Nat.ble_eq_true_of_le (by rw [arr_len]; simp; omega), cond_true] at hp
  unfold spC
  rw [Nat.ble_eq_true_of_le (by rw [List.length_append, arr_len]; simp; omega), cond_true, List.take_append_of_le_length (by rw [arr_len]; omega), List.drop_append_of_le_length (by rw [arr_len]; simp; omega)]
  have := Option.some.inj hp
  rw [← this]
  simp only [List.append_assoc]

theorem arr_fz1 (f : S) (n : Nat) : D.fzs [D.agg (arr f n)] = [D.agg (arr f n)] := by
  show [D.agg (D.fzs (arr f n))] = _
  rw [arr_fzs]
theorem arr_cl1 (f : S) (n : Nat) : D.cls [D.agg (arr f n)] = true := by
  show (D.cls (arr f n) && true) = true
  rw [arr_cls]; rfl
theorem spC_bels (k : Nat) (f : S) (h : List UInt8) (n : Nat) : D.bels k (spC f h n) = true := by
  exact bels_cls k _ (spC_cls f h n)
theorem spC_whole (f : S) (h : List UInt8) (n : Nat) (hh : h.length = 136) (ze : List D) : cut ⟨true, 162, ze⟩ 0 (spC f h n) = some (.agg (spC f h n)) := by
  unfold cut
  simp only [cond_true, Nat.zero_add, List.drop_zero]
  rw [Nat.ble_eq_true_of_le (by rw [spC_len f h n hh]; exact Nat.le_refl _), cond_true, List.take_of_length_le (by rw [spC_len f h n hh]; exact Nat.le_refl _)]
theorem spC_lay (f : S) (h : List UInt8) (n : Nat) (hh : h.length = 136) (cs : List D) (hc : cs.length = 162) : splice 0 (spC f h n) cs = some (spC f h n) := by
  unfold splice
  rw [Nat.ble_eq_true_of_le (by rw [spC_len f h n hh, hc]; exact Nat.le_refl _), cond_true, Nat.zero_add, List.drop_of_length_le (by rw [spC_len f h n hh, hc]; exact Nat.le_refl _)]
  simp

/-- bytes into the lanes, when i are in -/
def sI (f : S) (h : List UInt8) : Nat → S
  | 0 => f
  | i + 1 => upd (sI f h i) (i / 8) (sI f h i (i / 8) ^^^ BitVec.ofNat 64 (h.getD i 0).toNat <<< (8 * (i % 8)))
theorem u8_wv (c : UInt8) : IntKind.u64.wrap ((c.toNat : Nat) : Int) = wv (BitVec.ofNat 64 c.toNat) := by
  have := c.toNat_lt
  unfold wv
  rw [u64_in _ (by omega), BitVec.toNat_ofNat, Nat.mod_eq_of_lt (by omega)]
theorem quo8' (k : Nat) (hk : k < 1000) : IntKind.i64.wrap ((k : Int).tdiv 8) = ((k / 8 : Nat) : Int) := by
  rw [Int.tdiv_eq_ediv_of_nonneg (by omega), i64_in _ (by omega)]; omega
theorem rem8' (k : Nat) : (k : Int).tmod 8 = ((k % 8 : Nat) : Int) := by
  rw [Int.tmod_eq_emod_of_nonneg (by omega)]; omega
theorem b_ix (l : List UInt8) (k : Nat) (h : k < l.length) : cut ⟨false, 1, [.int .u8 0]⟩ (((k : Nat) : Int).toNat * 1) (bs l) = some (.int .u8 ((l.getD k 0).toNat : Int)) := by
  unfold cut
  rw [Int.toNat_natCast, Nat.mul_one, cond_false]
  refine bs_get l k _ ?_
  rw [List.getD_eq_getElem?_getD, List.getElem?_eq_getElem h]; rfl

theorem hld0 : (hld []).length = 136 := rfl
theorem spC_front (f g : S) (h : List UInt8) (n : Nat) : splice 0 (arr g 25) (spC f h n) = some (spC g h n) := by
  unfold splice spC
  rw [Nat.ble_eq_true_of_le (by rw [List.length_append, arr_len, arr_len]; omega), cond_true, List.take_zero, List.nil_append, Nat.zero_add, arr_len, List.drop_append_of_le_length (by rw [arr_len]; omega), List.drop_of_length_le (by rw [arr_len]; omega), List.nil_append]
theorem sp_build (T : S) (zs : List D) (hz : zs = spC (fun _ => 0) (hld []) 0) : dfill [(0, 25), (25, 136), (161, 1)] zs [(0, .agg (arr T 25))] = some (spC T (hld []) 0) := by
  subst hz
  have e : splice 0 (D.agg (arr T 25)).cells (spC (fun _ => 0) (hld []) 0) = some (spC T (hld []) 0) := spC_front _ _ _ _
  have hc : (Nat.beq (D.agg (arr T 25)).cells.length 25 && (D.agg (arr T 25)).fits) = true := by
    show (Nat.beq (arr T 25).length 25 && true) = true
    rw [arr_len]; rfl
  simp only [dfill, List.getElem?_cons_zero, hc, cond_true, e]
set_option maxHeartbeats 16000000 in
theorem soak_ok (f : S) (h : List UInt8) (n : Nat) (hh : h.length = 136) : Pur Tryd.prog 74 [.agg (spC f h n)] (.agg (spC (turn kons (sI f h 136)) (hld []) 0)) := by
  obtain ⟨F, hF⟩ : ∃ F, sI f h 136 = F := ⟨_, rfl⟩
  rw [hF]
  have hT := Turn_ok F
  obtain ⟨T, hT'⟩ : ∃ T, turn kons F = T := ⟨_, rfl⟩
  rw [hT'] at hT ⊢
  have hcl : D.cl (.agg (spC T (hld []) 0)) = true := spC_cls _ _ _
  refine pur_intro Tryd.func74 rfl Tryd.ntmps74 rfl (by first | rfl | assumption | exact bs_cl _) fun B => ?_
  repeat (first | with_reducible (first | refine W_seq ?_ | refine q_then ?_ | refine q_thenr ?_ | refine q_thenx ?_ | refine W_block ?_ | refine q_block ?_ | refine q_blockr ?_ | refine q_blockx ?_ | refine W_ret ?_ | refine W_skip ?_ | refine W_label ?_ | refine W_exit ?_ | refine W_scope ?_ | refine q_scope ?_ | refine q_scoper ?_ | refine q_scopex ?_) | (with_reducible refine R_nil ?_; try dsimp only [slots0, slots_ud, arr_len, arr_cls, arr_fzs, arr_bels, arr_len, arr_cls, arr_fzs, arr_bels, cells_U, agg_ud, drop0, dropS, takeS, take0, ud_nil, take_ud, take_ud0, drop_ud, drop_ud0, take_udk, D.cells, D.fz, D.fzs, List.take_succ_cons, List.take_zero, List.drop_succ_cons, List.drop_zero, List.cons_append, List.nil_append, List.append_eq, List.length_cons, List.length_nil, Nat.reduceAdd, Nat.reduceMul, Nat.reduceSub, Int.reduceAdd, Int.reduceSub, Int.reduceToNat, Int.reduceNeg, Int.reduceMul]) | refine q_blocky rfl ?_ | refine W_plain rfl ?_ | refine W_drawn mixed rfl ?_ | refine and_chk (by kernel_rfl) ?_ | refine k_move rfl rfl ?_ | refine k_assign rfl rfl ?_ | refine k_load rfl rfl rfl rfl ?_ | refine k_alloc rfl ?_ | refine k_box rfl rfl rfl ?_ | refine k_store rfl rfl rfl rfl rfl rfl rfl ?_ | refine k_fieldAddr rfl rfl rfl ?_ | refine k_build rfl rfl rfl ?_ | refine k_load rfl rfl rfl (spC_held _ _ _ hh _) ?_ | (refine k_append rfl rfl rfl ?_ ?_ ?_ rfl ?_ rfl rfl rfl ?_; (first | rfl | exact trivial | (show 0 < _; omega)); (first | rfl | (simp <;> omega)); (first | rfl | (simp <;> omega)); (omega)) | (refine k_slice rfl rfl rfl rfl ⟨?_, ?_, ?_⟩ rfl rfl rfl ?_; (omega); (omega); (omega)) | (refine k_slice3 rfl rfl rfl rfl rfl ⟨?_, ?_, ?_⟩ rfl rfl rfl ?_; (omega); (omega); (omega)) | (refine k_sliceA rfl rfl rfl rfl ⟨?_, ?_, ?_, ?_⟩ rfl rfl ?_; (omega); (omega); (omega); (omega)) | (refine k_sliceE rfl rfl rfl rfl ⟨?_, ?_, ?_, ?_⟩ rfl rfl rfl rfl ?_; (omega); (omega); (omega); (omega)) | (refine k_indexAddr rfl rfl rfl ⟨?_, ?_⟩ ?_; (omega); (omega)) | (refine k_indexAddrs rfl rfl rfl ⟨?_, ?_⟩ rfl ?_; (omega); (omega)) | (refine k_index rfl rfl rfl ⟨?_, ?_⟩ rfl ?_; (omega); (omega)) | refine k_loade rfl rfl rfl ?_ | refine k_fieldAddre rfl rfl rfl rfl ?_ | (refine k_addi rfl rfl rfl ?_ ?_; (omega)) | (refine k_lssT rfl rfl rfl ?_ ?_; (omega)) | (refine k_lssF rfl rfl rfl ?_ ?_; (omega)) | refine W_yes rfl ?_ | refine W_no rfl ?_)
  refine W_loop (fun n' ρ m nx => ∃ i : Nat, i ≤ 136 ∧ n' = 136 - i ∧ ρ = [(7, .int .i64 (i : Int)), (6, .agg (bs h)), (2, .ptr 1 0), (1, .ptr 0 0)] ∧ (∃ cs, cs.length = 162 ∧ D.bels 2 cs = true ∧ m = [(1, some (.var 110 cs)), (0, some (.var 110 (spC (sI f h i) h n)))]) ∧ nx = 2)
    ⟨_, _, _, _, (by exact ⟨⟨rfl, rfl⟩, ⟨rfl, bels_cls _ _ (bs_cl _)⟩, ⟨rfl, rfl⟩, ⟨rfl, rfl⟩, trivial⟩), (by exact ⟨⟨rfl, rfl, rfl⟩, ⟨rfl, rfl, spC_bels _ _ _ _⟩, trivial⟩), 0, by decide, rfl, rfl, ⟨_, rfl, rfl, rfl⟩, rfl⟩ ?_
  rintro n' ρ m nx ⟨i, hi, rfl, rfl, ⟨cs, hcs, hbl, rfl⟩, rfl⟩
  by_cases hlt : i < 136
  · have hb := b_ix h i (by omega)
    have hu := u8_wv (h.getD i 0)
    have hq := quo8' i (by omega)
    have hr := rem8' i
    have hm : IntKind.i64.wrap (8 * ((i % 8 : Nat) : Int)) = ((8 * (i % 8) : Nat) : Int) := mulc 8 _ (by omega) (by omega)
    have hl := spC_lane (sI f h i) h n (i / 8) (by omega)
    have hs := shl_wv (BitVec.ofNat 64 (h.getD i 0).toNat) (8 * (i % 8)) (by omega)
    have hx := xor_wv (sI f h i (i / 8)) (BitVec.ofNat 64 (h.getD i 0).toNat <<< (8 * (i % 8)))
    have hp := spC_putlane (sI f h i) h n (i / 8) (by omega) (sI f h i (i / 8) ^^^ BitVec.ofNat 64 (h.getD i 0).toNat <<< (8 * (i % 8)))
    have hn : upd (sI f h i) (i / 8) (sI f h i (i / 8) ^^^ BitVec.ofNat 64 (h.getD i 0).toNat <<< (8 * (i % 8))) = sI f h (i + 1) := rfl
    rw [hn] at hp
    clear hn
    have b1 : i / 8 < 25 := by omega
    have b2 : i % 8 < 8 := by omega
    generalize (h.getD i 0) = c at *
    generalize h1 : sI f h (i + 1) = g1 at *
    generalize sI f h i = g0 at *
    generalize i / 8 = q at *
    generalize i % 8 = r at *
    repeat (first | with_reducible (first | refine W_seq ?_ | refine q_then ?_ | refine q_thenr ?_ | refine q_thenx ?_ | refine W_block ?_ | refine q_block ?_ | refine q_blockr ?_ | refine q_blockx ?_ | refine W_ret ?_ | refine W_skip ?_ | refine W_label ?_ | refine W_exit ?_ | refine W_scope ?_ | refine q_scope ?_ | refine q_scoper ?_ | refine q_scopex ?_) | (with_reducible refine R_nil ?_; try dsimp only [slots0, slots_ud, arr_len, arr_cls, arr_fzs, arr_bels, arr_len, arr_cls, arr_fzs, arr_bels, cells_U, agg_ud, drop0, dropS, takeS, take0, ud_nil, take_ud, take_ud0, drop_ud, drop_ud0, take_udk, D.cells, D.fz, D.fzs, List.take_succ_cons, List.take_zero, List.drop_succ_cons, List.drop_zero, List.cons_append, List.nil_append, List.append_eq, List.length_cons, List.length_nil, Nat.reduceAdd, Nat.reduceMul, Nat.reduceSub, Int.reduceAdd, Int.reduceSub, Int.reduceToNat, Int.reduceNeg, Int.reduceMul]) | refine q_blocky rfl ?_ | refine W_plain rfl ?_ | refine W_drawn mixed rfl ?_ | refine and_chk (by kernel_rfl) ?_ | refine k_move rfl rfl ?_ | refine k_assign rfl rfl ?_ | refine k_load rfl rfl rfl rfl ?_ | refine k_alloc rfl ?_ | refine k_box rfl rfl rfl ?_ | refine k_store rfl rfl rfl rfl rfl rfl rfl ?_ | refine k_fieldAddr rfl rfl rfl ?_ | refine k_build rfl rfl rfl ?_ | (refine k_index rfl rfl rfl ⟨?_, ?_⟩ (by exact hb) ?_; (omega); (omega)) | (refine k_quo rfl rfl rfl ?_ hq ?_; (decide)) | (refine k_rem rfl rfl rfl ?_ hr ?_; (decide)) | refine k_mul rfl rfl rfl hm ?_ | refine k_load rfl rfl rfl (hl _) ?_ | refine k_conv rfl rfl hu ?_ | (refine k_shl rfl rfl rfl ?_ hs ?_; (omega)) | refine k_bits rfl rfl rfl rfl hx ?_ | refine k_store rfl rfl rfl rfl rfl rfl (by exact hp) ?_ | (refine k_append rfl rfl rfl ?_ ?_ ?_ rfl ?_ rfl rfl rfl ?_; (first | rfl | exact trivial | (show 0 < _; omega)); (first | rfl | (simp <;> omega)); (first | rfl | (simp <;> omega)); (omega)) | (refine k_slice rfl rfl rfl rfl ⟨?_, ?_, ?_⟩ rfl rfl rfl ?_; (omega); (omega); (omega)) | (refine k_slice3 rfl rfl rfl rfl rfl ⟨?_, ?_, ?_⟩ rfl rfl rfl ?_; (omega); (omega); (omega)) | (refine k_sliceA rfl rfl rfl rfl ⟨?_, ?_, ?_, ?_⟩ rfl rfl ?_; (omega); (omega); (omega); (omega)) | (refine k_sliceE rfl rfl rfl rfl ⟨?_, ?_, ?_, ?_⟩ rfl rfl rfl rfl ?_; (omega); (omega); (omega); (omega)) | (refine k_indexAddr rfl rfl rfl ⟨?_, ?_⟩ ?_; (omega); (omega)) | (refine k_indexAddrs rfl rfl rfl ⟨?_, ?_⟩ rfl ?_; (omega); (omega)) | (refine k_index rfl rfl rfl ⟨?_, ?_⟩ rfl ?_; (omega); (omega)) | refine k_loade rfl rfl rfl ?_ | refine k_fieldAddre rfl rfl rfl rfl ?_ | (refine k_addi rfl rfl rfl ?_ ?_; (omega)) | (refine k_lssT rfl rfl rfl ?_ ?_; (omega)) | (refine k_lssF rfl rfl rfl ?_ ?_; (omega)) | refine W_yes rfl ?_ | refine W_no rfl ?_)
    subst h1
    exact ⟨136 - (i + 1), _, _, _, (by exact ⟨⟨rfl, rfl⟩, ⟨rfl, bels_cls _ _ (bs_cl _)⟩, ⟨rfl, rfl⟩, ⟨rfl, rfl⟩, trivial⟩), (by exact ⟨⟨rfl, rfl, hbl⟩, ⟨rfl, rfl, spC_bels _ _ _ _⟩, trivial⟩), by omega, i + 1, by omega, rfl, rfl, ⟨_, hcs, hbl, rfl⟩, rfl⟩
  · have ei : i = 136 := by omega
    subst ei
    rw [hF]
    repeat (first | with_reducible (first | refine W_seq ?_ | refine q_then ?_ | refine q_thenr ?_ | refine q_thenx ?_ | refine W_block ?_ | refine q_block ?_ | refine q_blockr ?_ | refine q_blockx ?_ | refine W_ret ?_ | refine W_skip ?_ | refine W_label ?_ | refine W_exit ?_ | refine W_scope ?_ | refine q_scope ?_ | refine q_scoper ?_ | refine q_scopex ?_) | (with_reducible refine R_nil ?_; try dsimp only [slots0, slots_ud, arr_len, arr_cls, arr_fzs, arr_bels, arr_len, arr_cls, arr_fzs, arr_bels, cells_U, agg_ud, drop0, dropS, takeS, take0, ud_nil, take_ud, take_ud0, drop_ud, drop_ud0, take_udk, D.cells, D.fz, D.fzs, List.take_succ_cons, List.take_zero, List.drop_succ_cons, List.drop_zero, List.cons_append, List.nil_append, List.append_eq, List.length_cons, List.length_nil, Nat.reduceAdd, Nat.reduceMul, Nat.reduceSub, Int.reduceAdd, Int.reduceSub, Int.reduceToNat, Int.reduceNeg, Int.reduceMul]) | refine q_blocky rfl ?_ | refine W_plain rfl ?_ | refine W_drawn mixed rfl ?_ | refine and_chk (by kernel_rfl) ?_ | refine k_load rfl rfl rfl (spC_lanes _ _ _ _) ?_ | refine k_build rfl rfl (by exact sp_build _ _ (by kernel_rfl)) ?_ | refine k_move rfl rfl ?_ | refine k_assign rfl rfl ?_ | refine k_load rfl rfl rfl rfl ?_ | refine k_alloc rfl ?_ | refine k_box rfl rfl rfl ?_ | refine k_store rfl rfl rfl rfl rfl rfl rfl ?_ | refine k_fieldAddr rfl rfl rfl ?_ | refine k_build rfl rfl rfl ?_ | refine k_call rfl hT rfl (arr_fz1 _ _) (arr_cl1 _ _) (arr_cls _ _) ?_ | refine k_store rfl rfl rfl rfl (by exact spC_len _ _ _ hld0) rfl (by exact spC_lay _ _ _ hld0 cs hcs) ?_ | (refine k_append rfl rfl rfl ?_ ?_ ?_ rfl ?_ rfl rfl rfl ?_; (first | rfl | exact trivial | (show 0 < _; omega)); (first | rfl | (simp <;> omega)); (first | rfl | (simp <;> omega)); (omega)) | (refine k_slice rfl rfl rfl rfl ⟨?_, ?_, ?_⟩ rfl rfl rfl ?_; (omega); (omega); (omega)) | (refine k_slice3 rfl rfl rfl rfl rfl ⟨?_, ?_, ?_⟩ rfl rfl rfl ?_; (omega); (omega); (omega)) | (refine k_sliceA rfl rfl rfl rfl ⟨?_, ?_, ?_, ?_⟩ rfl rfl ?_; (omega); (omega); (omega); (omega)) | (refine k_sliceE rfl rfl rfl rfl ⟨?_, ?_, ?_, ?_⟩ rfl rfl rfl rfl ?_; (omega); (omega); (omega); (omega)) | (refine k_indexAddr rfl rfl rfl ⟨?_, ?_⟩ ?_; (omega); (omega)) | (refine k_indexAddrs rfl rfl rfl ⟨?_, ?_⟩ rfl ?_; (omega); (omega)) | (refine k_index rfl rfl rfl ⟨?_, ?_⟩ rfl ?_; (omega); (omega)) | refine k_loade rfl rfl rfl ?_ | refine k_fieldAddre rfl rfl rfl rfl ?_ | (refine k_addi rfl rfl rfl ?_ ?_; (omega)) | (refine k_lssT rfl rfl rfl ?_ ?_; (omega)) | (refine k_lssF rfl rfl rfl ?_ ?_; (omega)) | refine W_yes rfl ?_ | refine W_no rfl ?_)
    (first | with_reducible refine q_endr ?_ | with_reducible refine q_endn ?_); refine rets1 Tryd.results74 (RetV.cell _ _ _ _ _ _ _ _ inferInstance rfl rfl (by exact spC_whole _ _ _ hld0 _)) ?_
    show D.agg (D.fzs (spC T (hld []) 0)) = _
    rw [spC_fzs]
end Go.Proofs.YtpdhbddkcnffbaaDoor

namespace Go.Proofs.YtpdhbddkcnffbaaDoor
open Go.RowKit Go.IntWalk Kec
set_option linter.unusedVariables false
set_option linter.unusedVariables false
set_option maxRecDepth 100000
--nrm arr_len arr_cls arr_fzs arr_bels

theorem hld_zero (l : List UInt8) (k : Nat) (h : l.length ≤ k) : (hld l).getD k 0 = 0 := by
  unfold hld
  rw [List.getD_eq_getElem?_getD, List.getElem?_append_right h, List.getElem?_replicate]
  split <;> rfl
theorem spC_byte (f : S) (h : List UInt8) (n k : Nat) (hh : h.length = 136) (hk : k < 136) (ze : List D) (o : Nat) (ho : o = 25 + k) : cut ⟨false, 1, ze⟩ o (spC f h n) = some (.int .u8 ((h.getD k 0).toNat : Int)) := by
  unfold cut; rw [cond_false, ho]; exact spC_at f h n k hh hk
theorem splice_one (l : List D) (o : Nat) (x : D) (h : o < l.length) : splice o [x] l = some (l.set o x) := by
  unfold splice
  rw [Nat.ble_eq_true_of_le (by simp; omega), cond_true, List.set_eq_take_append_cons_drop, if_pos h]
  simp
theorem spC_putbyte (f : S) (h : List UInt8) (n k : Nat) (hh : h.length = 136) (hk : k < 136) (c : UInt8) (o : Nat) (ho : o = 25 + k) : splice o [D.int .u8 (c.toNat : Int)] (spC f h n) = some (spC f (h.set k c) n) := by
  subst ho
  rw [splice_one _ _ _ (by rw [spC_len f h n hh]; omega)]
  congr 1
  unfold spC
  have hb : (bs h).set k (D.int .u8 (c.toNat : Int)) = bs (h.set k c) := by unfold bs; rw [List.map_set]
  rw [List.set_append_right _ _ (by rw [arr_len]; omega), arr_len, show 25 + k - 25 = k from by omega, List.set_append_left _ _ (by rw [bs_len, hh]; omega), hb]
theorem spC_putn (f : S) (h : List UInt8) (n : Nat) (k : Nat) (hh : h.length = 136) : splice 161 [D.int .i64 (k : Int)] (spC f h n) = some (spC f h k) := by
  unfold splice
  rw [Nat.ble_eq_true_of_le (by rw [spC_len f h n hh]; simp), cond_true]
  congr 1
  unfold spC
  have e1 : (arr f 25 ++ (bs h ++ [D.int .i64 (n : Int)])).take 161 = arr f 25 ++ bs h := by
    rw [← List.append_assoc, List.take_append_of_le_length (by rw [List.length_append, arr_len, bs_len, hh]; omega), List.take_of_length_le (by rw [List.length_append, arr_len, bs_len, hh]; omega)]
  rw [e1, List.drop_of_length_le (by simp [arr_len, bs_len, hh])]
  simp
theorem hld_set (l : List UInt8) (c : UInt8) (h : l.length < 136) : (hld l).set l.length c = hld (l ++ [c]) := by
  unfold hld
  rw [List.set_append_right _ _ (Nat.le_refl _), Nat.sub_self]
  obtain ⟨k, hk⟩ : ∃ k, 136 - l.length = k + 1 := ⟨136 - l.length - 1, by omega⟩
  rw [hk, List.replicate_succ, List.set_cons_zero, List.length_append, show 136 - (l.length + [c].length) = k from by simp; omega, List.append_assoc]
  rfl

set_option maxHeartbeats 16000000 in
theorem check_ok (f : S) (l : List UInt8) (hl : l.length < 136) : Pur Tryd.prog 73 [.agg (spC f (hld l) l.length)] (.int .i64 0) := by
  have hh := hld_len l (by omega)
  have hN := spC_n f (hld l) l.length hh
  have hz : ∀ k, l.length ≤ k → (hld l).getD k 0 = 0 := fun k hk => hld_zero l k hk
  obtain ⟨n, hn⟩ : ∃ n, l.length = n := ⟨_, rfl⟩
  rw [hn] at hl hN hz ⊢
  have hnn : (((136 : Nat) : Int) - (n : Int)).toNat = 136 - n := by omega
  have hoff : 25 + ((n : Nat) : Int).toNat * 1 = 25 + n := by omega
  refine pur_intro Tryd.func73 rfl Tryd.ntmps73 rfl (by first | rfl | assumption | exact bs_cl _) fun B => ?_
  repeat (first | with_reducible (first | refine W_seq ?_ | refine q_then ?_ | refine q_thenr ?_ | refine q_thenx ?_ | refine W_block ?_ | refine q_block ?_ | refine q_blockr ?_ | refine q_blockx ?_ | refine W_ret ?_ | refine W_skip ?_ | refine W_label ?_ | refine W_exit ?_ | refine W_scope ?_ | refine q_scope ?_ | refine q_scoper ?_ | refine q_scopex ?_) | (with_reducible refine R_nil ?_; try dsimp only [slots0, slots_ud, arr_len, arr_cls, arr_fzs, arr_bels, arr_len, arr_cls, arr_fzs, arr_bels, arr_len, arr_cls, arr_fzs, arr_bels, cells_U, agg_ud, drop0, dropS, takeS, take0, ud_nil, take_ud, take_ud0, drop_ud, drop_ud0, take_udk, D.cells, D.fz, D.fzs, List.take_succ_cons, List.take_zero, List.drop_succ_cons, List.drop_zero, List.cons_append, List.nil_append, List.append_eq, List.length_cons, List.length_nil, Nat.reduceAdd, Nat.reduceMul, Nat.reduceSub, Int.reduceAdd, Int.reduceSub, Int.reduceToNat, Int.reduceNeg, Int.reduceMul]) | refine q_blocky rfl ?_ | refine W_plain rfl ?_ | refine W_drawn mixed rfl ?_ | refine and_chk (by kernel_rfl) ?_ | refine k_load rfl rfl rfl (hN _) ?_ | (refine k_sliceA rfl rfl rfl rfl ⟨?_, ?_, ?_, ?_⟩ hnn hoff ?_; (omega); (omega); (omega); (omega)) | refine k_move rfl rfl ?_ | refine k_assign rfl rfl ?_ | refine k_load rfl rfl rfl rfl ?_ | refine k_box rfl rfl rfl ?_ | refine k_fieldAddr rfl rfl rfl ?_ | refine k_lenM rfl rfl ?_ | (refine k_append rfl rfl rfl ?_ ?_ ?_ rfl ?_ rfl rfl rfl ?_; (first | rfl | exact trivial | (show 0 < _; omega)); (first | rfl | (simp <;> omega)); (first | rfl | (simp <;> omega)); (omega)) | (refine k_slice rfl rfl rfl rfl ⟨?_, ?_, ?_⟩ rfl rfl rfl ?_; (omega); (omega); (omega)) | (refine k_slice3 rfl rfl rfl rfl rfl ⟨?_, ?_, ?_⟩ rfl rfl rfl ?_; (omega); (omega); (omega)) | (refine k_sliceA rfl rfl rfl rfl ⟨?_, ?_, ?_, ?_⟩ rfl rfl ?_; (omega); (omega); (omega); (omega)) | (refine k_sliceE rfl rfl rfl rfl ⟨?_, ?_, ?_, ?_⟩ rfl rfl rfl rfl ?_; (omega); (omega); (omega); (omega)) | (refine k_indexAddr rfl rfl rfl ⟨?_, ?_⟩ ?_; (omega); (omega)) | (refine k_indexAddrs rfl rfl rfl ⟨?_, ?_⟩ rfl ?_; (omega); (omega)) | refine k_loade rfl rfl rfl ?_ | refine k_fieldAddre rfl rfl rfl rfl ?_ | refine k_len rfl rfl ?_ | refine k_pickT rfl rfl rfl ?_ | refine k_pickF rfl rfl rfl ?_ | (refine k_addi rfl rfl rfl ?_ ?_; (omega)) | (refine k_lssT rfl rfl rfl ?_ ?_; (omega)) | (refine k_lssF rfl rfl rfl ?_ ?_; (omega)) | (refine k_geqT rfl rfl rfl ?_ ?_; (omega)) | (refine k_geqF rfl rfl rfl ?_ ?_; (omega)) | (refine k_neqT rfl rfl rfl ?_ ?_; (omega)) | (refine k_neqF rfl rfl rfl ?_ ?_; (omega)) | refine k_nea rfl rfl rfl rfl rfl rfl ?_ | refine k_skip rfl ?_ | refine k_skip0 rfl ?_ | refine k_pick rfl rfl rfl rfl rfl ?_ | refine W_yes rfl ?_ | refine W_no rfl ?_)
  refine W_loop (fun n' ρ m nx => ∃ i : Nat, i ≤ 136 - n ∧ n' = 136 - n - i ∧ ρ = [(18, .int .i64 (i : Int)), (17, .int .i64 ((136 - n : Nat) : Int)), (16, .ms 0 (25 + n) (136 - n)), (1, .ptr 0 0)] ∧ m = [(0, some (.var 110 (spC f (hld l) n)))] ∧ nx = 1)
    ⟨_, _, _, _, (by repeat (first | exact trivial | refine ⟨⟨rfl, rfl⟩, ?_⟩ | refine ⟨⟨rfl, bs_bel _ _⟩, ?_⟩ | refine ⟨⟨rfl, arr_bels _ _ _⟩, ?_⟩)), (by exact ⟨⟨rfl, rfl, spC_bels _ _ _ _⟩, trivial⟩), 0, by omega, rfl, rfl, rfl, rfl⟩ ?_
  rintro n' ρ m nx ⟨i, hi, rfl, rfl, rfl, rfl⟩
  by_cases hlt : i < 136 - n
  · have hc := spC_byte f (hld l) n (n + i) hh (by omega)
    rw [hz (n + i) (by omega)] at hc
    have hc' : ∀ ze, cut ⟨false, 1, ze⟩ (25 + n + ((i : Nat) : Int).toNat * 1) (spC f (hld l) n) = some (.int .u8 0) := fun ze => hc ze _ (by omega)
    repeat (first | with_reducible (first | refine W_seq ?_ | refine q_then ?_ | refine q_thenr ?_ | refine q_thenx ?_ | refine W_block ?_ | refine q_block ?_ | refine q_blockr ?_ | refine q_blockx ?_ | refine W_ret ?_ | refine W_skip ?_ | refine W_label ?_ | refine W_exit ?_ | refine W_scope ?_ | refine q_scope ?_ | refine q_scoper ?_ | refine q_scopex ?_) | (with_reducible refine R_nil ?_; try dsimp only [slots0, slots_ud, arr_len, arr_cls, arr_fzs, arr_bels, arr_len, arr_cls, arr_fzs, arr_bels, arr_len, arr_cls, arr_fzs, arr_bels, cells_U, agg_ud, drop0, dropS, takeS, take0, ud_nil, take_ud, take_ud0, drop_ud, drop_ud0, take_udk, D.cells, D.fz, D.fzs, List.take_succ_cons, List.take_zero, List.drop_succ_cons, List.drop_zero, List.cons_append, List.nil_append, List.append_eq, List.length_cons, List.length_nil, Nat.reduceAdd, Nat.reduceMul, Nat.reduceSub, Int.reduceAdd, Int.reduceSub, Int.reduceToNat, Int.reduceNeg, Int.reduceMul]) | refine q_blocky rfl ?_ | refine W_plain rfl ?_ | refine W_drawn mixed rfl ?_ | refine and_chk (by kernel_rfl) ?_ | refine k_load rfl rfl rfl (hc' _) ?_ | refine k_move rfl rfl ?_ | refine k_assign rfl rfl ?_ | refine k_load rfl rfl rfl rfl ?_ | refine k_box rfl rfl rfl ?_ | refine k_fieldAddr rfl rfl rfl ?_ | (refine k_indexAddrM rfl rfl rfl ⟨?_, ?_⟩ ?_; (omega); (omega)) | (refine k_append rfl rfl rfl ?_ ?_ ?_ rfl ?_ rfl rfl rfl ?_; (first | rfl | exact trivial | (show 0 < _; omega)); (first | rfl | (simp <;> omega)); (first | rfl | (simp <;> omega)); (omega)) | (refine k_slice rfl rfl rfl rfl ⟨?_, ?_, ?_⟩ rfl rfl rfl ?_; (omega); (omega); (omega)) | (refine k_slice3 rfl rfl rfl rfl rfl ⟨?_, ?_, ?_⟩ rfl rfl rfl ?_; (omega); (omega); (omega)) | (refine k_sliceA rfl rfl rfl rfl ⟨?_, ?_, ?_, ?_⟩ rfl rfl ?_; (omega); (omega); (omega); (omega)) | (refine k_sliceE rfl rfl rfl rfl ⟨?_, ?_, ?_, ?_⟩ rfl rfl rfl rfl ?_; (omega); (omega); (omega); (omega)) | (refine k_indexAddr rfl rfl rfl ⟨?_, ?_⟩ ?_; (omega); (omega)) | (refine k_indexAddrs rfl rfl rfl ⟨?_, ?_⟩ rfl ?_; (omega); (omega)) | refine k_loade rfl rfl rfl ?_ | refine k_fieldAddre rfl rfl rfl rfl ?_ | refine k_len rfl rfl ?_ | refine k_pickT rfl rfl rfl ?_ | refine k_pickF rfl rfl rfl ?_ | (refine k_addi rfl rfl rfl ?_ ?_; (omega)) | (refine k_lssT rfl rfl rfl ?_ ?_; (omega)) | (refine k_lssF rfl rfl rfl ?_ ?_; (omega)) | (refine k_geqT rfl rfl rfl ?_ ?_; (omega)) | (refine k_geqF rfl rfl rfl ?_ ?_; (omega)) | (refine k_neqT rfl rfl rfl ?_ ?_; (omega)) | (refine k_neqF rfl rfl rfl ?_ ?_; (omega)) | refine k_nea rfl rfl rfl rfl rfl rfl ?_ | refine k_skip rfl ?_ | refine k_skip0 rfl ?_ | refine k_pick rfl rfl rfl rfl rfl ?_ | refine W_yes rfl ?_ | refine W_no rfl ?_)
    exact ⟨136 - n - (i + 1), _, _, _, (by repeat (first | exact trivial | refine ⟨⟨rfl, rfl⟩, ?_⟩ | refine ⟨⟨rfl, bs_bel _ _⟩, ?_⟩ | refine ⟨⟨rfl, arr_bels _ _ _⟩, ?_⟩)), (by exact ⟨⟨rfl, rfl, spC_bels _ _ _ _⟩, trivial⟩), by omega, i + 1, by omega, rfl, rfl, rfl, rfl⟩
  · have ei : i = 136 - n := by omega
    subst ei
    repeat (first | with_reducible (first | refine W_seq ?_ | refine q_then ?_ | refine q_thenr ?_ | refine q_thenx ?_ | refine W_block ?_ | refine q_block ?_ | refine q_blockr ?_ | refine q_blockx ?_ | refine W_ret ?_ | refine W_skip ?_ | refine W_label ?_ | refine W_exit ?_ | refine W_scope ?_ | refine q_scope ?_ | refine q_scoper ?_ | refine q_scopex ?_) | (with_reducible refine R_nil ?_; try dsimp only [slots0, slots_ud, arr_len, arr_cls, arr_fzs, arr_bels, arr_len, arr_cls, arr_fzs, arr_bels, arr_len, arr_cls, arr_fzs, arr_bels, cells_U, agg_ud, drop0, dropS, takeS, take0, ud_nil, take_ud, take_ud0, drop_ud, drop_ud0, take_udk, D.cells, D.fz, D.fzs, List.take_succ_cons, List.take_zero, List.drop_succ_cons, List.drop_zero, List.cons_append, List.nil_append, List.append_eq, List.length_cons, List.length_nil, Nat.reduceAdd, Nat.reduceMul, Nat.reduceSub, Int.reduceAdd, Int.reduceSub, Int.reduceToNat, Int.reduceNeg, Int.reduceMul]) | refine q_blocky rfl ?_ | refine W_plain rfl ?_ | refine W_drawn mixed rfl ?_ | refine and_chk (by kernel_rfl) ?_ | refine k_move rfl rfl ?_ | refine k_assign rfl rfl ?_ | refine k_load rfl rfl rfl rfl ?_ | refine k_box rfl rfl rfl ?_ | refine k_fieldAddr rfl rfl rfl ?_ | (refine k_append rfl rfl rfl ?_ ?_ ?_ rfl ?_ rfl rfl rfl ?_; (first | rfl | exact trivial | (show 0 < _; omega)); (first | rfl | (simp <;> omega)); (first | rfl | (simp <;> omega)); (omega)) | (refine k_slice rfl rfl rfl rfl ⟨?_, ?_, ?_⟩ rfl rfl rfl ?_; (omega); (omega); (omega)) | (refine k_slice3 rfl rfl rfl rfl rfl ⟨?_, ?_, ?_⟩ rfl rfl rfl ?_; (omega); (omega); (omega)) | (refine k_sliceA rfl rfl rfl rfl ⟨?_, ?_, ?_, ?_⟩ rfl rfl ?_; (omega); (omega); (omega); (omega)) | (refine k_sliceE rfl rfl rfl rfl ⟨?_, ?_, ?_, ?_⟩ rfl rfl rfl rfl ?_; (omega); (omega); (omega); (omega)) | (refine k_indexAddr rfl rfl rfl ⟨?_, ?_⟩ ?_; (omega); (omega)) | (refine k_indexAddrs rfl rfl rfl ⟨?_, ?_⟩ rfl ?_; (omega); (omega)) | refine k_loade rfl rfl rfl ?_ | refine k_fieldAddre rfl rfl rfl rfl ?_ | refine k_len rfl rfl ?_ | refine k_pickT rfl rfl rfl ?_ | refine k_pickF rfl rfl rfl ?_ | (refine k_addi rfl rfl rfl ?_ ?_; (omega)) | (refine k_lssT rfl rfl rfl ?_ ?_; (omega)) | (refine k_lssF rfl rfl rfl ?_ ?_; (omega)) | (refine k_geqT rfl rfl rfl ?_ ?_; (omega)) | (refine k_geqF rfl rfl rfl ?_ ?_; (omega)) | (refine k_neqT rfl rfl rfl ?_ ?_; (omega)) | (refine k_neqF rfl rfl rfl ?_ ?_; (omega)) | refine k_nea rfl rfl rfl rfl rfl rfl ?_ | refine k_skip rfl ?_ | refine k_skip0 rfl ?_ | refine k_pick rfl rfl rfl rfl rfl ?_ | refine W_yes rfl ?_ | refine W_no rfl ?_)
    (first | with_reducible refine q_endr ?_ | with_reducible refine q_endn ?_); refine rets1 Tryd.results73 (by first | exact RetV.tmp _ _ rfl | exact RetV.cell _ _ _ _ _ _ _ _ inferInstance rfl rfl rfl) ?_
    rfl
end Go.Proofs.YtpdhbddkcnffbaaDoor

namespace Go.Proofs.YtpdhbddkcnffbaaDoor
open Go.RowKit Go.IntWalk Kec
set_option linter.unusedVariables false
set_option linter.unusedVariables false
set_option maxRecDepth 100000
--nrm arr_len arr_cls arr_fzs arr_bels

/-- one byte more -/
def addS (s : S × List UInt8) (c : UInt8) : S × List UInt8 := if s.2.length + 1 = 136 then (turn kons (sI s.1 (s.2 ++ [c]) 136), []) else (s.1, s.2 ++ [c])
theorem addS_lt (s : S × List UInt8) (c : UInt8) (h : s.2.length < 136) : (addS s c).2.length < 136 := by
  unfold addS
  split
  · simp
  · simp; omega
def addA (s : S × List UInt8) (b : List UInt8) : S × List UInt8 := b.foldl addS s
theorem addA_lt : ∀ (b : List UInt8) (s : S × List UInt8), s.2.length < 136 → (addA s b).2.length < 136
  | [], s, h => h
  | c :: b, s, h => addA_lt b (addS s c) (addS_lt s c h)
def spD (s : S × List UInt8) : List D := spC s.1 (hld s.2) s.2.length
theorem hld_full (l : List UInt8) (h : l.length = 136) : hld l = l := by unfold hld; rw [h]; simp
theorem addS_a (s : S × List UInt8) (c : UInt8) (h : s.2.length + 1 = 136) : spD (addS s c) = spC (turn kons (sI s.1 (hld (s.2 ++ [c])) 136)) (hld []) 0 := by
  unfold addS spD
  rw [if_pos h, hld_full (s.2 ++ [c]) (by simp; omega)]; rfl
theorem addS_b (s : S × List UInt8) (c : UInt8) (h : ¬ s.2.length + 1 = 136) : spD (addS s c) = spC s.1 (hld (s.2 ++ [c])) (s.2.length + 1) := by
  unfold addS spD
  rw [if_neg h]; simp
theorem spD_len (s : S × List UInt8) (h : s.2.length < 136) : (spD s).length = 162 := spC_len _ _ _ (hld_len _ (by omega))
theorem spD_bels (k : Nat) (s : S × List UInt8) : D.bels k (spD s) = true := spC_bels k _ _ _
theorem spD_fz1 (s : S × List UInt8) : D.fzs [D.agg (spD s)] = [D.agg (spD s)] := by
  show [D.agg (D.fzs (spC _ _ _))] = _
  rw [spC_fzs]; rfl
theorem spC_fz1 (f : S) (h : List UInt8) (n : Nat) : D.fzs [D.agg (spC f h n)] = [D.agg (spC f h n)] := by
  show [D.agg (D.fzs (spC _ _ _))] = _
  rw [spC_fzs]
theorem spC_cl1 (f : S) (h : List UInt8) (n : Nat) : D.cls [D.agg (spC f h n)] = true := by
  show (D.cls (spC _ _ _) && true) = true
  rw [spC_cls]; rfl
theorem addA_take (s : S × List UInt8) (b : List UInt8) (i : Nat) (h : i < b.length) : addA s (b.take (i + 1)) = addS (addA s (b.take i)) (b.getD i 0) := by
  unfold addA
  rw [List.take_add_one, List.getElem?_eq_getElem h, List.foldl_append, List.getD_eq_getElem?_getD, List.getElem?_eq_getElem h]; rfl
theorem sl_ix (b : List UInt8) (i : Nat) (h : i < b.length) (ze : List D) : cut ⟨false, 1, ze⟩ 0 ((bs b).drop (((i : Nat) : Int).toNat * 1)) = some (.int .u8 ((b.getD i 0).toNat : Int)) := by
  unfold cut
  rw [Int.toNat_natCast, Nat.mul_one, cond_false, List.getElem?_drop, Nat.add_zero]
  refine bs_get b i _ ?_
  rw [List.getD_eq_getElem?_getD, List.getElem?_eq_getElem h]; rfl
set_option maxHeartbeats 32000000 in
theorem KAdd_ok (s : S × List UInt8) (hs : s.2.length < 136) (b : List UInt8) (nb : Nat) (hnb : b.length = nb) (hsm : nb < 1000000) : Pur Tryd.prog 56 [.agg (spD s), .slice .frozen nb (bs b)] (.tup [.agg (spD (addA s b)), .int .i64 0]) := by
  have hc := check_ok s.1 s.2 hs
  have hfl := addA_lt b s hs
  obtain ⟨Z, hZ⟩ : ∃ Z, addA s b = Z := ⟨_, rfl⟩
  rw [hZ] at hfl ⊢
  have hcl : D.cl (.tup [.agg (spD Z), .int .i64 0]) = true := by show (D.cls (spC _ _ _) && true) = true; rw [spC_cls]; rfl
  refine pur_intro Tryd.func56 rfl Tryd.ntmps56 rfl (by first | rfl | assumption | exact bs_cl _) fun B => ?_
  repeat (first | with_reducible (first | refine W_seq ?_ | refine q_then ?_ | refine q_thenr ?_ | refine q_thenx ?_ | refine W_block ?_ | refine q_block ?_ | refine q_blockr ?_ | refine q_blockx ?_ | refine W_ret ?_ | refine W_skip ?_ | refine W_label ?_ | refine W_exit ?_ | refine W_scope ?_ | refine q_scope ?_ | refine q_scoper ?_ | refine q_scopex ?_) | (with_reducible refine R_nil ?_; try dsimp only [slots0, slots_ud, arr_len, arr_cls, arr_fzs, arr_bels, arr_len, arr_cls, arr_fzs, arr_bels, arr_len, arr_cls, arr_fzs, arr_bels, arr_len, arr_cls, arr_fzs, arr_bels, cells_U, agg_ud, drop0, dropS, takeS, take0, ud_nil, take_ud, take_ud0, drop_ud, drop_ud0, take_udk, D.cells, D.fz, D.fzs, List.take_succ_cons, List.take_zero, List.drop_succ_cons, List.drop_zero, List.cons_append, List.nil_append, List.append_eq, List.length_cons, List.length_nil, Nat.reduceAdd, Nat.reduceMul, Nat.reduceSub, Int.reduceAdd, Int.reduceSub, Int.reduceToNat, Int.reduceNeg, Int.reduceMul]) | refine q_blocky rfl ?_ | refine W_plain rfl ?_ | refine W_drawn mixed rfl ?_ | refine and_chk (by kernel_rfl) ?_ | refine k_load rfl rfl rfl (spC_whole _ _ _ (hld_len _ (by omega)) _) ?_ | refine k_call rfl hc rfl (spD_fz1 _) (spC_cl1 _ _ _) rfl ?_ | refine k_move rfl rfl ?_ | refine k_assign rfl rfl ?_ | refine k_load rfl rfl rfl rfl ?_ | refine k_alloc rfl ?_ | refine k_box rfl rfl rfl ?_ | refine k_store rfl rfl rfl rfl rfl rfl rfl ?_ | refine k_fieldAddr rfl rfl rfl ?_ | refine k_build rfl rfl rfl ?_ | (refine k_append rfl rfl rfl ?_ ?_ ?_ rfl ?_ rfl rfl rfl ?_; (first | rfl | exact trivial | (show 0 < _; omega)); (first | rfl | (simp <;> omega)); (first | rfl | (simp <;> omega)); (omega)) | (refine k_slice rfl rfl rfl rfl ⟨?_, ?_, ?_⟩ rfl rfl rfl ?_; (omega); (omega); (omega)) | (refine k_slice3 rfl rfl rfl rfl rfl ⟨?_, ?_, ?_⟩ rfl rfl rfl ?_; (omega); (omega); (omega)) | (refine k_sliceA rfl rfl rfl rfl ⟨?_, ?_, ?_, ?_⟩ rfl rfl ?_; (omega); (omega); (omega); (omega)) | (refine k_sliceE rfl rfl rfl rfl ⟨?_, ?_, ?_, ?_⟩ rfl rfl rfl rfl ?_; (omega); (omega); (omega); (omega)) | (refine k_indexAddr rfl rfl rfl ⟨?_, ?_⟩ ?_; (omega); (omega)) | (refine k_indexAddrs rfl rfl rfl ⟨?_, ?_⟩ rfl ?_; (omega); (omega)) | refine k_loade rfl rfl rfl ?_ | refine k_fieldAddre rfl rfl rfl rfl ?_ | refine k_len rfl rfl ?_ | (refine k_addi rfl rfl rfl ?_ ?_; (omega)) | (refine k_lssT rfl rfl rfl ?_ ?_; (omega)) | (refine k_lssF rfl rfl rfl ?_ ?_; (omega)) | (refine k_eqlT rfl rfl rfl ?_ ?_; (omega)) | (refine k_eqlF rfl rfl rfl ?_ ?_; (omega)) | (refine k_neqT rfl rfl rfl ?_ ?_; (omega)) | (refine k_neqF rfl rfl rfl ?_ ?_; (omega)) | refine k_eqa rfl rfl rfl rfl rfl rfl ?_ | refine k_nea rfl rfl rfl rfl rfl rfl ?_ | refine W_yes rfl ?_ | refine W_no rfl ?_)
  refine W_loop (fun n' ρ m nx => ∃ i : Nat, i ≤ nb ∧ n' = nb - i ∧ ρ = [(17, .int .i64 (i : Int)), (16, .int .i64 (nb : Int)), (15, .slice .frozen nb (bs b)), (5, .int .i64 0), (4, .ptr 1 0), (2, .ptr 0 0)] ∧ (∃ cs, cs.length = 162 ∧ D.bels 2 cs = true ∧ m = [(1, some (.var 110 cs)), (0, some (.var 110 (spD (addA s (b.take i)))))]) ∧ nx = 2)
    ⟨_, _, _, _, (by repeat (first | exact trivial | refine ⟨⟨rfl, rfl⟩, ?_⟩ | refine ⟨⟨rfl, bs_bel _ _⟩, ?_⟩ | refine ⟨⟨rfl, arr_bels _ _ _⟩, ?_⟩)), (by exact ⟨⟨rfl, rfl, rfl⟩, ⟨rfl, rfl, spD_bels _ _⟩, trivial⟩), 0, by omega, rfl, rfl, ⟨_, rfl, rfl, rfl⟩, rfl⟩ ?_
  have hbn : nb * 1 = (bs b).length := by rw [bs_len]; omega
  rintro n' ρ m nx ⟨i, hi, rfl, rfl, ⟨cs, hcs, hbl, rfl⟩, rfl⟩
  by_cases hlt : i < nb
  · have hst := addA_take s b i (by omega)
    have hix := sl_ix b i (by omega)
    have hil := addA_lt (b.take i) s hs
    generalize hY : addA s (b.take i) = Y at *
    generalize b.getD i 0 = c at *
    have hh := hld_len Y.2 (by omega)
    have hN : ∀ ze, cut ⟨false, 1, ze⟩ 161 (spD Y) = some (.int .i64 (Y.2.length : Int)) := spC_n Y.1 (hld Y.2) Y.2.length hh
    have hsB : splice (25 + ((Y.2.length : Nat) : Int).toNat * 1) [D.int .u8 (c.toNat : Int)] (spD Y) = some (spC Y.1 (hld (Y.2 ++ [c])) Y.2.length) := by
      rw [← hld_set Y.2 c hil]
      exact spC_putbyte Y.1 (hld Y.2) Y.2.length Y.2.length hh hil c _ (by omega)
    have hh1 := hld_len (Y.2 ++ [c]) (by simp; omega)
    have hN1 : ∀ ze, cut ⟨false, 1, ze⟩ 161 (spC Y.1 (hld (Y.2 ++ [c])) Y.2.length) = some (.int .i64 (Y.2.length : Int)) := spC_n Y.1 _ Y.2.length hh1
    have hsN : splice 161 [D.int .i64 (((Y.2.length + 1 : Nat)) : Int)] (spC Y.1 (hld (Y.2 ++ [c])) Y.2.length) = some (spC Y.1 (hld (Y.2 ++ [c])) (Y.2.length + 1)) := spC_putn Y.1 _ Y.2.length (Y.2.length + 1) hh1
    have hN2 : ∀ ze, cut ⟨false, 1, ze⟩ 161 (spC Y.1 (hld (Y.2 ++ [c])) (Y.2.length + 1)) = some (.int .i64 ((Y.2.length + 1 : Nat) : Int)) := spC_n Y.1 _ (Y.2.length + 1) hh1
    have hadd : IntKind.i64.wrap ((Y.2.length : Int) + 1) = ((Y.2.length + 1 : Nat) : Int) := by rw [i64_in _ (by omega)]; omega
    by_cases hfull : Y.2.length + 1 = 136
    · have hso := soak_ok Y.1 (hld (Y.2 ++ [c])) (Y.2.length + 1) hh1
      have hre := addS_a Y c hfull
      rw [← hre] at hso
      have hwh := spC_whole Y.1 (hld (Y.2 ++ [c])) (Y.2.length + 1) hh1
      have hXl := spD_len (addS Y c) (addS_lt Y c hil)
      have hlay : ∀ cs : List D, cs.length = 162 → splice 0 (spD (addS Y c)) cs = some (spD (addS Y c)) := fun cs hc => by
        unfold splice
        rw [Nat.ble_eq_true_of_le (by rw [hXl, hc]; exact Nat.le_refl _), cond_true, Nat.zero_add, List.drop_of_length_le (by rw [hXl, hc]; exact Nat.le_refl _)]
        simp
      have hl2 := hlay _ (spC_len Y.1 (hld (Y.2 ++ [c])) (Y.2.length + 1) hh1)
      have hcl2 : D.cl (.agg (spD (addS Y c))) = true := spC_cls _ _ _
      generalize Y.2.length = q at *
      generalize hld (Y.2 ++ [c]) = H at *
      repeat (first | with_reducible (first | refine W_seq ?_ | refine q_then ?_ | refine q_thenr ?_ | refine q_thenx ?_ | refine W_block ?_ | refine q_block ?_ | refine q_blockr ?_ | refine q_blockx ?_ | refine W_ret ?_ | refine W_skip ?_ | refine W_label ?_ | refine W_exit ?_ | refine W_scope ?_ | refine q_scope ?_ | refine q_scoper ?_ | refine q_scopex ?_) | (with_reducible refine R_nil ?_; try dsimp only [slots0, slots_ud, arr_len, arr_cls, arr_fzs, arr_bels, arr_len, arr_cls, arr_fzs, arr_bels, arr_len, arr_cls, arr_fzs, arr_bels, arr_len, arr_cls, arr_fzs, arr_bels, cells_U, agg_ud, drop0, dropS, takeS, take0, ud_nil, take_ud, take_ud0, drop_ud, drop_ud0, take_udk, D.cells, D.fz, D.fzs, List.take_succ_cons, List.take_zero, List.drop_succ_cons, List.drop_zero, List.cons_append, List.nil_append, List.append_eq, List.length_cons, List.length_nil, Nat.reduceAdd, Nat.reduceMul, Nat.reduceSub, Int.reduceAdd, Int.reduceSub, Int.reduceToNat, Int.reduceNeg, Int.reduceMul]) | refine q_blocky rfl ?_ | refine W_plain rfl ?_ | refine W_drawn mixed rfl ?_ | refine and_chk (by kernel_rfl) ?_ | (refine k_indexAddrs rfl rfl rfl ⟨?_, ?_⟩ (by exact hbn) ?_; (omega); (omega)) | refine k_loade rfl rfl (hix _) ?_ | refine k_load rfl rfl rfl (hN _) ?_ | refine k_store rfl rfl rfl rfl rfl rfl (by exact hsB) ?_ | refine k_load rfl rfl rfl (hN1 _) ?_ | refine k_add (k := .i64) rfl rfl rfl hadd ?_ | refine k_store rfl rfl rfl rfl rfl rfl (by exact hsN) ?_ | refine k_load rfl rfl rfl (hN2 _) ?_ | refine k_load rfl rfl rfl (hwh _) ?_ | refine k_call rfl hso rfl (spC_fz1 _ _ _) (spC_cl1 _ _ _) hcl2 ?_ | refine k_store rfl rfl rfl rfl (by exact hXl) rfl (by exact hl2) ?_ | refine k_move rfl rfl ?_ | refine k_assign rfl rfl ?_ | refine k_load rfl rfl rfl rfl ?_ | refine k_alloc rfl ?_ | refine k_box rfl rfl rfl ?_ | refine k_store rfl rfl rfl rfl rfl rfl rfl ?_ | refine k_fieldAddr rfl rfl rfl ?_ | refine k_build rfl rfl rfl ?_ | (refine k_append rfl rfl rfl ?_ ?_ ?_ rfl ?_ rfl rfl rfl ?_; (first | rfl | exact trivial | (show 0 < _; omega)); (first | rfl | (simp <;> omega)); (first | rfl | (simp <;> omega)); (omega)) | (refine k_slice rfl rfl rfl rfl ⟨?_, ?_, ?_⟩ rfl rfl rfl ?_; (omega); (omega); (omega)) | (refine k_slice3 rfl rfl rfl rfl rfl ⟨?_, ?_, ?_⟩ rfl rfl rfl ?_; (omega); (omega); (omega)) | (refine k_sliceA rfl rfl rfl rfl ⟨?_, ?_, ?_, ?_⟩ rfl rfl ?_; (omega); (omega); (omega); (omega)) | (refine k_sliceE rfl rfl rfl rfl ⟨?_, ?_, ?_, ?_⟩ rfl rfl rfl rfl ?_; (omega); (omega); (omega); (omega)) | (refine k_indexAddr rfl rfl rfl ⟨?_, ?_⟩ ?_; (omega); (omega)) | (refine k_indexAddrs rfl rfl rfl ⟨?_, ?_⟩ rfl ?_; (omega); (omega)) | refine k_loade rfl rfl rfl ?_ | refine k_fieldAddre rfl rfl rfl rfl ?_ | refine k_len rfl rfl ?_ | (refine k_addi rfl rfl rfl ?_ ?_; (omega)) | (refine k_lssT rfl rfl rfl ?_ ?_; (omega)) | (refine k_lssF rfl rfl rfl ?_ ?_; (omega)) | (refine k_eqlT rfl rfl rfl ?_ ?_; (omega)) | (refine k_eqlF rfl rfl rfl ?_ ?_; (omega)) | (refine k_neqT rfl rfl rfl ?_ ?_; (omega)) | (refine k_neqF rfl rfl rfl ?_ ?_; (omega)) | refine k_eqa rfl rfl rfl rfl rfl rfl ?_ | refine k_nea rfl rfl rfl rfl rfl rfl ?_ | refine W_yes rfl ?_ | refine W_no rfl ?_)
      rw [← hst]
      exact ⟨nb - (i + 1), _, _, _, (by repeat (first | exact trivial | refine ⟨⟨rfl, rfl⟩, ?_⟩ | refine ⟨⟨rfl, bs_bel _ _⟩, ?_⟩ | refine ⟨⟨rfl, arr_bels _ _ _⟩, ?_⟩)), (by exact ⟨⟨rfl, rfl, hbl⟩, ⟨rfl, rfl, spD_bels _ _⟩, trivial⟩), by omega, i + 1, by omega, rfl, rfl, ⟨_, hcs, hbl, rfl⟩, rfl⟩
    · have hre := addS_b Y c hfull
      rw [← hst] at hre
      generalize Y.2.length = q at *
      generalize hld (Y.2 ++ [c]) = H at *
      repeat (first | with_reducible (first | refine W_seq ?_ | refine q_then ?_ | refine q_thenr ?_ | refine q_thenx ?_ | refine W_block ?_ | refine q_block ?_ | refine q_blockr ?_ | refine q_blockx ?_ | refine W_ret ?_ | refine W_skip ?_ | refine W_label ?_ | refine W_exit ?_ | refine W_scope ?_ | refine q_scope ?_ | refine q_scoper ?_ | refine q_scopex ?_) | (with_reducible refine R_nil ?_; try dsimp only [slots0, slots_ud, arr_len, arr_cls, arr_fzs, arr_bels, arr_len, arr_cls, arr_fzs, arr_bels, arr_len, arr_cls, arr_fzs, arr_bels, arr_len, arr_cls, arr_fzs, arr_bels, cells_U, agg_ud, drop0, dropS, takeS, take0, ud_nil, take_ud, take_ud0, drop_ud, drop_ud0, take_udk, D.cells, D.fz, D.fzs, List.take_succ_cons, List.take_zero, List.drop_succ_cons, List.drop_zero, List.cons_append, List.nil_append, List.append_eq, List.length_cons, List.length_nil, Nat.reduceAdd, Nat.reduceMul, Nat.reduceSub, Int.reduceAdd, Int.reduceSub, Int.reduceToNat, Int.reduceNeg, Int.reduceMul]) | refine q_blocky rfl ?_ | refine W_plain rfl ?_ | refine W_drawn mixed rfl ?_ | refine and_chk (by kernel_rfl) ?_ | (refine k_indexAddrs rfl rfl rfl ⟨?_, ?_⟩ (by exact hbn) ?_; (omega); (omega)) | refine k_loade rfl rfl (hix _) ?_ | refine k_load rfl rfl rfl (hN _) ?_ | refine k_store rfl rfl rfl rfl rfl rfl (by exact hsB) ?_ | refine k_load rfl rfl rfl (hN1 _) ?_ | refine k_add (k := .i64) rfl rfl rfl hadd ?_ | refine k_store rfl rfl rfl rfl rfl rfl (by exact hsN) ?_ | refine k_load rfl rfl rfl (hN2 _) ?_ | refine k_move rfl rfl ?_ | refine k_assign rfl rfl ?_ | refine k_load rfl rfl rfl rfl ?_ | refine k_alloc rfl ?_ | refine k_box rfl rfl rfl ?_ | refine k_store rfl rfl rfl rfl rfl rfl rfl ?_ | refine k_fieldAddr rfl rfl rfl ?_ | refine k_build rfl rfl rfl ?_ | (refine k_append rfl rfl rfl ?_ ?_ ?_ rfl ?_ rfl rfl rfl ?_; (first | rfl | exact trivial | (show 0 < _; omega)); (first | rfl | (simp <;> omega)); (first | rfl | (simp <;> omega)); (omega)) | (refine k_slice rfl rfl rfl rfl ⟨?_, ?_, ?_⟩ rfl rfl rfl ?_; (omega); (omega); (omega)) | (refine k_slice3 rfl rfl rfl rfl rfl ⟨?_, ?_, ?_⟩ rfl rfl rfl ?_; (omega); (omega); (omega)) | (refine k_sliceA rfl rfl rfl rfl ⟨?_, ?_, ?_, ?_⟩ rfl rfl ?_; (omega); (omega); (omega); (omega)) | (refine k_sliceE rfl rfl rfl rfl ⟨?_, ?_, ?_, ?_⟩ rfl rfl rfl rfl ?_; (omega); (omega); (omega); (omega)) | (refine k_indexAddr rfl rfl rfl ⟨?_, ?_⟩ ?_; (omega); (omega)) | (refine k_indexAddrs rfl rfl rfl ⟨?_, ?_⟩ rfl ?_; (omega); (omega)) | refine k_loade rfl rfl rfl ?_ | refine k_fieldAddre rfl rfl rfl rfl ?_ | refine k_len rfl rfl ?_ | (refine k_addi rfl rfl rfl ?_ ?_; (omega)) | (refine k_lssT rfl rfl rfl ?_ ?_; (omega)) | (refine k_lssF rfl rfl rfl ?_ ?_; (omega)) | (refine k_eqlT rfl rfl rfl ?_ ?_; (omega)) | (refine k_eqlF rfl rfl rfl ?_ ?_; (omega)) | (refine k_neqT rfl rfl rfl ?_ ?_; (omega)) | (refine k_neqF rfl rfl rfl ?_ ?_; (omega)) | refine k_eqa rfl rfl rfl rfl rfl rfl ?_ | refine k_nea rfl rfl rfl rfl rfl rfl ?_ | refine W_yes rfl ?_ | refine W_no rfl ?_)
      rw [← hre]
      exact ⟨nb - (i + 1), _, _, _, (by repeat (first | exact trivial | refine ⟨⟨rfl, rfl⟩, ?_⟩ | refine ⟨⟨rfl, bs_bel _ _⟩, ?_⟩ | refine ⟨⟨rfl, arr_bels _ _ _⟩, ?_⟩)), (by exact ⟨⟨rfl, rfl, hbl⟩, ⟨rfl, rfl, spD_bels _ _⟩, trivial⟩), by omega, i + 1, by omega, rfl, rfl, ⟨_, hcs, hbl, rfl⟩, rfl⟩
  · have ei : i = nb := by omega
    subst ei
    have hZ' : addA s (b.take i) = Z := by rw [← hnb, List.take_length, hZ]
    rw [hZ']
    have hwh : ∀ ze, cut ⟨true, 162, ze⟩ 0 (spD Z) = some (.agg (spD Z)) := spC_whole Z.1 (hld Z.2) Z.2.length (hld_len Z.2 (by omega))
    have hlay : splice 0 (spD Z) cs = some (spD Z) := spC_lay _ _ _ (hld_len Z.2 (by omega)) cs hcs
    have hZl := spD_len Z hfl
    repeat (first | with_reducible (first | refine W_seq ?_ | refine q_then ?_ | refine q_thenr ?_ | refine q_thenx ?_ | refine W_block ?_ | refine q_block ?_ | refine q_blockr ?_ | refine q_blockx ?_ | refine W_ret ?_ | refine W_skip ?_ | refine W_label ?_ | refine W_exit ?_ | refine W_scope ?_ | refine q_scope ?_ | refine q_scoper ?_ | refine q_scopex ?_) | (with_reducible refine R_nil ?_; try dsimp only [slots0, slots_ud, arr_len, arr_cls, arr_fzs, arr_bels, arr_len, arr_cls, arr_fzs, arr_bels, arr_len, arr_cls, arr_fzs, arr_bels, arr_len, arr_cls, arr_fzs, arr_bels, cells_U, agg_ud, drop0, dropS, takeS, take0, ud_nil, take_ud, take_ud0, drop_ud, drop_ud0, take_udk, D.cells, D.fz, D.fzs, List.take_succ_cons, List.take_zero, List.drop_succ_cons, List.drop_zero, List.cons_append, List.nil_append, List.append_eq, List.length_cons, List.length_nil, Nat.reduceAdd, Nat.reduceMul, Nat.reduceSub, Int.reduceAdd, Int.reduceSub, Int.reduceToNat, Int.reduceNeg, Int.reduceMul]) | refine q_blocky rfl ?_ | refine W_plain rfl ?_ | refine W_drawn mixed rfl ?_ | refine and_chk (by kernel_rfl) ?_ | refine k_load rfl rfl rfl (hwh _) ?_ | refine k_store rfl rfl rfl rfl (by exact hZl) rfl (by exact hlay) ?_ | refine k_move rfl rfl ?_ | refine k_assign rfl rfl ?_ | refine k_load rfl rfl rfl rfl ?_ | refine k_alloc rfl ?_ | refine k_box rfl rfl rfl ?_ | refine k_store rfl rfl rfl rfl rfl rfl rfl ?_ | refine k_fieldAddr rfl rfl rfl ?_ | refine k_build rfl rfl rfl ?_ | (refine k_append rfl rfl rfl ?_ ?_ ?_ rfl ?_ rfl rfl rfl ?_; (first | rfl | exact trivial | (show 0 < _; omega)); (first | rfl | (simp <;> omega)); (first | rfl | (simp <;> omega)); (omega)) | (refine k_slice rfl rfl rfl rfl ⟨?_, ?_, ?_⟩ rfl rfl rfl ?_; (omega); (omega); (omega)) | (refine k_slice3 rfl rfl rfl rfl rfl ⟨?_, ?_, ?_⟩ rfl rfl rfl ?_; (omega); (omega); (omega)) | (refine k_sliceA rfl rfl rfl rfl ⟨?_, ?_, ?_, ?_⟩ rfl rfl ?_; (omega); (omega); (omega); (omega)) | (refine k_sliceE rfl rfl rfl rfl ⟨?_, ?_, ?_, ?_⟩ rfl rfl rfl rfl ?_; (omega); (omega); (omega); (omega)) | (refine k_indexAddr rfl rfl rfl ⟨?_, ?_⟩ ?_; (omega); (omega)) | (refine k_indexAddrs rfl rfl rfl ⟨?_, ?_⟩ rfl ?_; (omega); (omega)) | refine k_loade rfl rfl rfl ?_ | refine k_fieldAddre rfl rfl rfl rfl ?_ | refine k_len rfl rfl ?_ | (refine k_addi rfl rfl rfl ?_ ?_; (omega)) | (refine k_lssT rfl rfl rfl ?_ ?_; (omega)) | (refine k_lssF rfl rfl rfl ?_ ?_; (omega)) | (refine k_eqlT rfl rfl rfl ?_ ?_; (omega)) | (refine k_eqlF rfl rfl rfl ?_ ?_; (omega)) | (refine k_neqT rfl rfl rfl ?_ ?_; (omega)) | (refine k_neqF rfl rfl rfl ?_ ?_; (omega)) | refine k_eqa rfl rfl rfl rfl rfl rfl ?_ | refine k_nea rfl rfl rfl rfl rfl rfl ?_ | refine W_yes rfl ?_ | refine W_no rfl ?_)
    (first | with_reducible refine q_endr ?_ | with_reducible refine q_endn ?_); refine rets2 Tryd.results56 (RetV.cell _ _ _ _ _ _ _ _ inferInstance rfl rfl (by exact hwh _)) (RetV.tmp _ _ rfl) ?_ rfl
    show D.agg (D.fzs (spC _ _ _)) = _
    rw [spC_fzs]; rfl
end Go.Proofs.YtpdhbddkcnffbaaDoor

namespace Go.Proofs.YtpdhbddkcnffbaaDoor
open Go.RowKit Go.IntWalk Kec
set_option linter.unusedVariables false
set_option linter.unusedVariables false
set_option maxRecDepth 100000
--nrm arr_len arr_cls arr_fzs arr_bels

/-- the last block: the bytes, a mark behind them, and one at the end -/
def pad (l : List UInt8) : List UInt8 := ((hld l).set l.length 1).set 135 (((hld l).set l.length 1).getD 135 0 ||| 128)
theorem pad_len (l : List UInt8) (h : l.length < 136) : (pad l).length = 136 := by unfold pad; rw [List.length_set, List.length_set, hld_len l (by omega)]
/-- bytes out of the lanes, when i are out -/
def outI (T : S) : Nat → List UInt8
  | 0 => List.replicate 32 0
  | i + 1 => (outI T i).set i (UInt8.ofNat (T (i / 8) >>> (8 * (i % 8))).toNat)
theorem outI_len (T : S) : ∀ i, (outI T i).length = 32
  | 0 => rfl
  | i + 1 => by rw [outI, List.length_set, outI_len T i]
def endS (s : S × List UInt8) : List UInt8 := outI (turn kons (sI s.1 (pad s.2) 136)) 32
theorem endS_len (s : S × List UInt8) : (endS s).length = 32 := outI_len _ _
def kec (b : List UInt8) : List UInt8 := endS (addA (fun _ => 0, []) b)
theorem kec_len (b : List UInt8) : (kec b).length = 32 := outI_len _ _

theorem or_u8 (x y : UInt8) : bitw .or .u8 (x.toNat : Int) (y.toNat : Int) = ((x ||| y).toNat : Int) := by
  unfold bitw
  show IntKind.u8.wrap ((BitVec.ofInt 8 (x.toNat : Int) ||| BitVec.ofInt 8 (y.toNat : Int)).toNat : Int) = _
  have e : ∀ z : UInt8, BitVec.ofInt 8 ((z.toNat : Nat) : Int) = z.toBitVec := fun z => by
    rw [BitVec.ofInt_natCast]; simp
  rw [e, e, IntKind.wrap_u8, ← UInt8.toBitVec_or]
  have := (x ||| y).toNat_lt
  show ((x ||| y).toNat : Int) % 256 = _
  omega
theorem wv_u8 (x : Kec.W) : IntKind.u8.wrap (wv x) = ((UInt8.ofNat x.toNat).toNat : Int) := by
  unfold wv
  rw [IntKind.wrap_u8, UInt8.toNat_ofNat']; omega

set_option maxHeartbeats 32000000 in
theorem End_ok (s : S × List UInt8) (hs : s.2.length < 136) : Pur Tryd.prog 58 [.agg (spD s)] (.tup [.agg (bs (endS s)), .int .i64 0]) := by
  have hck := check_ok s.1 s.2 hs
  have hh := hld_len s.2 (by omega)
  have hN : ∀ ze, cut ⟨false, 1, ze⟩ 161 (spD s) = some (.int .i64 (s.2.length : Int)) := spC_n s.1 (hld s.2) s.2.length hh
  have hWh : ∀ ze, cut ⟨true, 162, ze⟩ 0 (spD s) = some (.agg (spD s)) := spC_whole _ _ _ hh
  have hp1 : splice (25 + ((s.2.length : Nat) : Int).toNat * 1) [D.int .u8 1] (spD s) = some (spC s.1 ((hld s.2).set s.2.length 1) s.2.length) := spC_putbyte s.1 (hld s.2) s.2.length s.2.length hh hs 1 _ (by omega)
  have hh1 : ((hld s.2).set s.2.length 1).length = 136 := by rw [List.length_set, hh]
  have hb : ∀ ze, cut ⟨false, 1, ze⟩ 160 (spC s.1 ((hld s.2).set s.2.length 1) s.2.length) = some (.int .u8 ((((hld s.2).set s.2.length 1).getD 135 0).toNat : Int)) := fun ze => spC_byte s.1 _ s.2.length 135 hh1 (by decide) ze 160 rfl
  have hor : bitw .or .u8 ((((hld s.2).set s.2.length 1).getD 135 0).toNat : Int) 128 = (((((hld s.2).set s.2.length 1).getD 135 0) ||| 128).toNat : Int) := or_u8 _ 128
  have hp2 : splice 160 [D.int .u8 (((((hld s.2).set s.2.length 1).getD 135 0) ||| 128).toNat : Int)] (spC s.1 ((hld s.2).set s.2.length 1) s.2.length) = some (spC s.1 (pad s.2) s.2.length) := spC_putbyte s.1 _ s.2.length 135 hh1 (by decide) _ 160 rfl
  have hpl := pad_len s.2 hs
  have hso := soak_ok s.1 (pad s.2) s.2.length hpl
  have hwp := spC_whole s.1 (pad s.2) s.2.length hpl
  obtain ⟨T, hT⟩ : ∃ T, turn kons (sI s.1 (pad s.2) 136) = T := ⟨_, rfl⟩
  rw [hT] at hso
  have hlen := spC_len T (hld []) 0 hld0
  have hlay := spC_lay T (hld []) 0 hld0 (spC s.1 (pad s.2) s.2.length) (spC_len _ _ _ hpl)
  have hcT : D.cl (.agg (spC T (hld []) 0)) = true := spC_cls _ _ _
  have hE : endS s = outI T 32 := by unfold endS; rw [hT]
  rw [hE]
  obtain ⟨Z, hZ⟩ : ∃ Z, outI T 32 = Z := ⟨_, rfl⟩
  rw [hZ]
  have hZl : Z.length = 32 := by rw [← hZ]; exact outI_len T 32
  have hcl : D.cl (.tup [.agg (bs Z), .int .i64 0]) = true := by show (D.cls (bs Z) && true) = true; rw [bs_cl]; rfl
  have hf1 := spD_fz1 s
  have hc1 : D.cls [D.agg (spD s)] = true := spC_cl1 _ _ _
  have hf3 := spC_fz1 s.1 (pad s.2) s.2.length
  have hc3 := spC_cl1 s.1 (pad s.2) s.2.length
  have hb1 := spC_bels 3 T (hld []) 0
  have hlane : ∀ q, q < 25 → ∀ ze, cut ⟨false, 1, ze⟩ (0 + ((q : Nat) : Int).toNat * 1) (spC T (hld []) 0) = some (.int .u64 (wv (T q))) := fun q hq ze => spC_lane T (hld []) 0 q hq ze
  generalize spC T (hld []) 0 = X at *
  refine pur_intro Tryd.func58 rfl Tryd.ntmps58 rfl (by first | rfl | assumption | exact bs_cl _) fun B => ?_
  repeat (first | with_reducible (first | refine W_seq ?_ | refine q_then ?_ | refine q_thenr ?_ | refine q_thenx ?_ | refine W_block ?_ | refine q_block ?_ | refine q_blockr ?_ | refine q_blockx ?_ | refine W_ret ?_ | refine W_skip ?_ | refine W_label ?_ | refine W_exit ?_ | refine W_scope ?_ | refine q_scope ?_ | refine q_scoper ?_ | refine q_scopex ?_) | (with_reducible refine R_nil ?_; try dsimp only [slots0, slots_ud, arr_len, arr_cls, arr_fzs, arr_bels, arr_len, arr_cls, arr_fzs, arr_bels, arr_len, arr_cls, arr_fzs, arr_bels, arr_len, arr_cls, arr_fzs, arr_bels, arr_len, arr_cls, arr_fzs, arr_bels, cells_U, agg_ud, drop0, dropS, takeS, take0, ud_nil, take_ud, take_ud0, drop_ud, drop_ud0, take_udk, D.cells, D.fz, D.fzs, List.take_succ_cons, List.take_zero, List.drop_succ_cons, List.drop_zero, List.cons_append, List.nil_append, List.append_eq, List.length_cons, List.length_nil, Nat.reduceAdd, Nat.reduceMul, Nat.reduceSub, Int.reduceAdd, Int.reduceSub, Int.reduceToNat, Int.reduceNeg, Int.reduceMul]) | refine q_blocky rfl ?_ | refine W_plain rfl ?_ | refine W_drawn mixed rfl ?_ | refine and_chk (by kernel_rfl) ?_ | refine k_load rfl rfl rfl (hWh _) ?_ | refine k_call rfl hck rfl hf1 hc1 rfl ?_ | refine k_load rfl rfl rfl (hN _) ?_ | refine k_store rfl rfl rfl rfl rfl rfl (by exact hp1) ?_ | refine k_load rfl rfl rfl (hb _) ?_ | refine k_bits rfl rfl rfl rfl hor ?_ | refine k_store rfl rfl rfl rfl rfl rfl (by exact hp2) ?_ | refine k_load rfl rfl rfl (hwp _) ?_ | refine k_call rfl hso rfl hf3 hc3 hcT ?_ | refine k_store rfl rfl rfl rfl (by exact hlen) rfl (by exact hlay) ?_ | refine k_move rfl rfl ?_ | refine k_assign rfl rfl ?_ | refine k_load rfl rfl rfl rfl ?_ | refine k_alloc rfl ?_ | refine k_box rfl rfl rfl ?_ | refine k_store rfl rfl rfl rfl rfl rfl rfl ?_ | refine k_fieldAddr rfl rfl rfl ?_ | refine k_build rfl rfl rfl ?_ | (refine k_append rfl rfl rfl ?_ ?_ ?_ rfl ?_ rfl rfl rfl ?_; (first | rfl | exact trivial | (show 0 < _; omega)); (first | rfl | (simp <;> omega)); (first | rfl | (simp <;> omega)); (omega)) | (refine k_slice rfl rfl rfl rfl ⟨?_, ?_, ?_⟩ rfl rfl rfl ?_; (omega); (omega); (omega)) | (refine k_slice3 rfl rfl rfl rfl rfl ⟨?_, ?_, ?_⟩ rfl rfl rfl ?_; (omega); (omega); (omega)) | (refine k_sliceA rfl rfl rfl rfl ⟨?_, ?_, ?_, ?_⟩ rfl rfl ?_; (omega); (omega); (omega); (omega)) | (refine k_sliceE rfl rfl rfl rfl ⟨?_, ?_, ?_, ?_⟩ rfl rfl rfl rfl ?_; (omega); (omega); (omega); (omega)) | (refine k_indexAddr rfl rfl rfl ⟨?_, ?_⟩ ?_; (omega); (omega)) | (refine k_indexAddrs rfl rfl rfl ⟨?_, ?_⟩ rfl ?_; (omega); (omega)) | refine k_loade rfl rfl rfl ?_ | refine k_fieldAddre rfl rfl rfl rfl ?_ | (refine k_addi rfl rfl rfl ?_ ?_; (omega)) | (refine k_lssT rfl rfl rfl ?_ ?_; (omega)) | (refine k_lssF rfl rfl rfl ?_ ?_; (omega)) | (refine k_neqT rfl rfl rfl ?_ ?_; (omega)) | (refine k_neqF rfl rfl rfl ?_ ?_; (omega)) | refine k_nea rfl rfl rfl rfl rfl rfl ?_ | refine W_yes rfl ?_ | refine W_no rfl ?_)
  refine W_loop (fun n' ρ m nx => ∃ i : Nat, i ≤ 32 ∧ n' = 32 - i ∧ ρ = [(25, .int .i64 (i : Int)), (5, .ptr 2 0), (3, .int .i64 0), (2, .ptr 1 0), (1, .ptr 0 0)] ∧ m = [(2, some (.var 48 (bs (outI T i)))), (1, some (.var 48 (bs (List.replicate 32 0)))), (0, some (.var 110 X))] ∧ nx = 3)
    ⟨_, _, _, _, (by repeat (first | exact trivial | refine ⟨⟨rfl, rfl⟩, ?_⟩ | refine ⟨⟨rfl, bs_bel _ _⟩, ?_⟩ | refine ⟨⟨rfl, arr_bels _ _ _⟩, ?_⟩)), (by exact ⟨⟨rfl, rfl, rfl⟩, ⟨rfl, rfl, rfl⟩, ⟨rfl, rfl, hb1⟩, trivial⟩), 0, by omega, rfl, rfl, rfl, rfl⟩ ?_
  rintro n' ρ m nx ⟨i, hi, rfl, rfl, rfl, rfl⟩
  by_cases hlt : i < 32
  · have hq := quo8' i (by omega)
    have hr := rem8' i
    have hm : IntKind.i64.wrap (8 * ((i % 8 : Nat) : Int)) = ((8 * (i % 8) : Nat) : Int) := mulc 8 _ (by omega) (by omega)
    have hl := hlane (i / 8) (by omega)
    have hs' := shr_wv (T (i / 8)) (8 * (i % 8)) (by omega)
    have hv := wv_u8 (T (i / 8) >>> (8 * (i % 8)))
    have hp := bs_put (outI T i) i (UInt8.ofNat (T (i / 8) >>> (8 * (i % 8))).toNat) (by rw [outI_len]; exact hlt)
    have hn : (outI T i).set i (UInt8.ofNat (T (i / 8) >>> (8 * (i % 8))).toNat) = outI T (i + 1) := rfl
    rw [hn] at hp
    clear hn
    have b1 : i / 8 < 25 := by omega
    have b2 : i % 8 < 8 := by omega
    generalize h1 : outI T (i + 1) = o1 at *
    generalize outI T i = o0 at *
    generalize i / 8 = q at *
    generalize i % 8 = r at *
    repeat (first | with_reducible (first | refine W_seq ?_ | refine q_then ?_ | refine q_thenr ?_ | refine q_thenx ?_ | refine W_block ?_ | refine q_block ?_ | refine q_blockr ?_ | refine q_blockx ?_ | refine W_ret ?_ | refine W_skip ?_ | refine W_label ?_ | refine W_exit ?_ | refine W_scope ?_ | refine q_scope ?_ | refine q_scoper ?_ | refine q_scopex ?_) | (with_reducible refine R_nil ?_; try dsimp only [slots0, slots_ud, arr_len, arr_cls, arr_fzs, arr_bels, arr_len, arr_cls, arr_fzs, arr_bels, arr_len, arr_cls, arr_fzs, arr_bels, arr_len, arr_cls, arr_fzs, arr_bels, arr_len, arr_cls, arr_fzs, arr_bels, cells_U, agg_ud, drop0, dropS, takeS, take0, ud_nil, take_ud, take_ud0, drop_ud, drop_ud0, take_udk, D.cells, D.fz, D.fzs, List.take_succ_cons, List.take_zero, List.drop_succ_cons, List.drop_zero, List.cons_append, List.nil_append, List.append_eq, List.length_cons, List.length_nil, Nat.reduceAdd, Nat.reduceMul, Nat.reduceSub, Int.reduceAdd, Int.reduceSub, Int.reduceToNat, Int.reduceNeg, Int.reduceMul]) | refine q_blocky rfl ?_ | refine W_plain rfl ?_ | refine W_drawn mixed rfl ?_ | refine and_chk (by kernel_rfl) ?_ | refine k_load rfl rfl rfl (hl _) ?_ | refine k_store rfl rfl rfl rfl rfl rfl (by exact hp) ?_ | refine k_move rfl rfl ?_ | refine k_assign rfl rfl ?_ | refine k_load rfl rfl rfl rfl ?_ | refine k_alloc rfl ?_ | refine k_box rfl rfl rfl ?_ | refine k_store rfl rfl rfl rfl rfl rfl rfl ?_ | refine k_fieldAddr rfl rfl rfl ?_ | refine k_build rfl rfl rfl ?_ | (refine k_quo rfl rfl rfl ?_ hq ?_; (decide)) | (refine k_rem rfl rfl rfl ?_ hr ?_; (decide)) | refine k_mul rfl rfl rfl hm ?_ | (refine k_shr rfl rfl rfl ?_ hs' ?_; (omega)) | refine k_conv rfl rfl hv ?_ | (refine k_append rfl rfl rfl ?_ ?_ ?_ rfl ?_ rfl rfl rfl ?_; (first | rfl | exact trivial | (show 0 < _; omega)); (first | rfl | (simp <;> omega)); (first | rfl | (simp <;> omega)); (omega)) | (refine k_slice rfl rfl rfl rfl ⟨?_, ?_, ?_⟩ rfl rfl rfl ?_; (omega); (omega); (omega)) | (refine k_slice3 rfl rfl rfl rfl rfl ⟨?_, ?_, ?_⟩ rfl rfl rfl ?_; (omega); (omega); (omega)) | (refine k_sliceA rfl rfl rfl rfl ⟨?_, ?_, ?_, ?_⟩ rfl rfl ?_; (omega); (omega); (omega); (omega)) | (refine k_sliceE rfl rfl rfl rfl ⟨?_, ?_, ?_, ?_⟩ rfl rfl rfl rfl ?_; (omega); (omega); (omega); (omega)) | (refine k_indexAddr rfl rfl rfl ⟨?_, ?_⟩ ?_; (omega); (omega)) | (refine k_indexAddrs rfl rfl rfl ⟨?_, ?_⟩ rfl ?_; (omega); (omega)) | refine k_loade rfl rfl rfl ?_ | refine k_fieldAddre rfl rfl rfl rfl ?_ | (refine k_addi rfl rfl rfl ?_ ?_; (omega)) | (refine k_lssT rfl rfl rfl ?_ ?_; (omega)) | (refine k_lssF rfl rfl rfl ?_ ?_; (omega)) | (refine k_neqT rfl rfl rfl ?_ ?_; (omega)) | (refine k_neqF rfl rfl rfl ?_ ?_; (omega)) | refine k_nea rfl rfl rfl rfl rfl rfl ?_ | refine W_yes rfl ?_ | refine W_no rfl ?_)
    subst h1
    exact ⟨32 - (i + 1), _, _, _, (by repeat (first | exact trivial | refine ⟨⟨rfl, rfl⟩, ?_⟩ | refine ⟨⟨rfl, bs_bel _ _⟩, ?_⟩ | refine ⟨⟨rfl, arr_bels _ _ _⟩, ?_⟩)), (by exact ⟨⟨rfl, rfl, bels_cls _ _ (bs_cl _)⟩, ⟨rfl, rfl, bels_cls _ _ (bs_cl _)⟩, ⟨rfl, rfl, hb1⟩, trivial⟩), by omega, i + 1, by omega, rfl, rfl, rfl, rfl⟩
  · have ei : i = 32 := by omega
    subst ei
    rw [hZ]
    have hwZ := b_cut hZl
    repeat (first | with_reducible (first | refine W_seq ?_ | refine q_then ?_ | refine q_thenr ?_ | refine q_thenx ?_ | refine W_block ?_ | refine q_block ?_ | refine q_blockr ?_ | refine q_blockx ?_ | refine W_ret ?_ | refine W_skip ?_ | refine W_label ?_ | refine W_exit ?_ | refine W_scope ?_ | refine q_scope ?_ | refine q_scoper ?_ | refine q_scopex ?_) | (with_reducible refine R_nil ?_; try dsimp only [slots0, slots_ud, arr_len, arr_cls, arr_fzs, arr_bels, arr_len, arr_cls, arr_fzs, arr_bels, arr_len, arr_cls, arr_fzs, arr_bels, arr_len, arr_cls, arr_fzs, arr_bels, arr_len, arr_cls, arr_fzs, arr_bels, cells_U, agg_ud, drop0, dropS, takeS, take0, ud_nil, take_ud, take_ud0, drop_ud, drop_ud0, take_udk, D.cells, D.fz, D.fzs, List.take_succ_cons, List.take_zero, List.drop_succ_cons, List.drop_zero, List.cons_append, List.nil_append, List.append_eq, List.length_cons, List.length_nil, Nat.reduceAdd, Nat.reduceMul, Nat.reduceSub, Int.reduceAdd, Int.reduceSub, Int.reduceToNat, Int.reduceNeg, Int.reduceMul]) | refine q_blocky rfl ?_ | refine W_plain rfl ?_ | refine W_drawn mixed rfl ?_ | refine and_chk (by kernel_rfl) ?_ | refine k_load rfl rfl rfl (hwZ _) ?_ | refine k_store rfl rfl rfl rfl (b_len hZl) (b_fits _) (by exact b_put hZl _ rfl) ?_ | refine k_move rfl rfl ?_ | refine k_assign rfl rfl ?_ | refine k_load rfl rfl rfl rfl ?_ | refine k_alloc rfl ?_ | refine k_box rfl rfl rfl ?_ | refine k_store rfl rfl rfl rfl rfl rfl rfl ?_ | refine k_fieldAddr rfl rfl rfl ?_ | refine k_build rfl rfl rfl ?_ | (refine k_append rfl rfl rfl ?_ ?_ ?_ rfl ?_ rfl rfl rfl ?_; (first | rfl | exact trivial | (show 0 < _; omega)); (first | rfl | (simp <;> omega)); (first | rfl | (simp <;> omega)); (omega)) | (refine k_slice rfl rfl rfl rfl ⟨?_, ?_, ?_⟩ rfl rfl rfl ?_; (omega); (omega); (omega)) | (refine k_slice3 rfl rfl rfl rfl rfl ⟨?_, ?_, ?_⟩ rfl rfl rfl ?_; (omega); (omega); (omega)) | (refine k_sliceA rfl rfl rfl rfl ⟨?_, ?_, ?_, ?_⟩ rfl rfl ?_; (omega); (omega); (omega); (omega)) | (refine k_sliceE rfl rfl rfl rfl ⟨?_, ?_, ?_, ?_⟩ rfl rfl rfl rfl ?_; (omega); (omega); (omega); (omega)) | (refine k_indexAddr rfl rfl rfl ⟨?_, ?_⟩ ?_; (omega); (omega)) | (refine k_indexAddrs rfl rfl rfl ⟨?_, ?_⟩ rfl ?_; (omega); (omega)) | refine k_loade rfl rfl rfl ?_ | refine k_fieldAddre rfl rfl rfl rfl ?_ | (refine k_addi rfl rfl rfl ?_ ?_; (omega)) | (refine k_lssT rfl rfl rfl ?_ ?_; (omega)) | (refine k_lssF rfl rfl rfl ?_ ?_; (omega)) | (refine k_neqT rfl rfl rfl ?_ ?_; (omega)) | (refine k_neqF rfl rfl rfl ?_ ?_; (omega)) | refine k_nea rfl rfl rfl rfl rfl rfl ?_ | refine W_yes rfl ?_ | refine W_no rfl ?_)
    (first | with_reducible refine q_endr ?_ | with_reducible refine q_endn ?_); refine rets2 Tryd.results58 (RetV.cell _ _ _ _ _ _ _ _ inferInstance rfl rfl (by exact hwZ _)) (RetV.tmp _ _ rfl) ?_ rfl
    exact b_fz _

theorem Begin_ok : Pur Tryd.prog 57 [] (.agg (spD (fun _ => 0, []))) := by
  have hZ : (.agg (spD (fun _ => 0, [])) : D) = .agg (List.replicate 25 (.int .u64 0) ++ (List.replicate 136 (.int .u8 0) ++ [.int .i64 0])) := by kernel_rfl
  rw [hZ]
  refine pur_intro Tryd.func57 rfl Tryd.ntmps57 rfl (by first | rfl | assumption | exact bs_cl _) fun B => ?_
  repeat (first | with_reducible (first | refine W_seq ?_ | refine q_then ?_ | refine q_thenr ?_ | refine q_thenx ?_ | refine W_block ?_ | refine q_block ?_ | refine q_blockr ?_ | refine q_blockx ?_ | refine W_ret ?_ | refine W_skip ?_ | refine W_label ?_ | refine W_exit ?_ | refine W_scope ?_ | refine q_scope ?_ | refine q_scoper ?_ | refine q_scopex ?_) | (with_reducible refine R_nil ?_; try dsimp only [slots0, slots_ud, arr_len, arr_cls, arr_fzs, arr_bels, arr_len, arr_cls, arr_fzs, arr_bels, arr_len, arr_cls, arr_fzs, arr_bels, arr_len, arr_cls, arr_fzs, arr_bels, arr_len, arr_cls, arr_fzs, arr_bels, cells_U, agg_ud, drop0, dropS, takeS, take0, ud_nil, take_ud, take_ud0, drop_ud, drop_ud0, take_udk, D.cells, D.fz, D.fzs, List.take_succ_cons, List.take_zero, List.drop_succ_cons, List.drop_zero, List.cons_append, List.nil_append, List.append_eq, List.length_cons, List.length_nil, Nat.reduceAdd, Nat.reduceMul, Nat.reduceSub, Int.reduceAdd, Int.reduceSub, Int.reduceToNat, Int.reduceNeg, Int.reduceMul]) | refine q_blocky rfl ?_ | refine W_plain rfl ?_ | refine W_drawn mixed rfl ?_ | refine and_chk (by kernel_rfl) ?_ | refine k_alloc rfl ?_ | refine k_store rfl rfl rfl rfl rfl rfl rfl ?_ | refine k_build rfl rfl rfl ?_ | refine W_yes rfl ?_ | refine W_no rfl ?_)
  (first | with_reducible refine q_endr ?_ | with_reducible refine q_endn ?_); refine rets1 Tryd.results57 (by first | exact RetV.tmp _ _ rfl | exact RetV.cell _ _ _ _ _ _ _ _ inferInstance rfl rfl rfl) ?_
  rfl

theorem spD_fz (s : S × List UInt8) : (D.agg (spD s)).fz = D.agg (spD s) := by
  show D.agg (D.fzs (spC _ _ _)) = _
  rw [spC_fzs]; rfl
theorem spD_cl (s : S × List UInt8) : (D.agg (spD s)).cl = true := spC_cls _ _ _
set_option maxHeartbeats 8000000 in
theorem Sum_of (s0 : S × List UInt8) (h0 : s0.2.length < 136) (hB : Pur Tryd.prog 57 [] (.agg (spD s0))) (b : List UInt8) (nb : Nat) (hnb : b.length = nb) (hsm : nb < 1000000) : Pur Tryd.prog 32 [.slice .frozen nb (bs b)] (.agg (bs (endS (addA s0 b)))) := by
  have hA := KAdd_ok s0 h0 b nb hnb hsm
  have hAl := addA_lt b s0 h0
  have hZl := endS_len (addA s0 b)
  have hE := End_ok _ hAl
  generalize addA s0 b = s1 at *
  generalize endS s1 = Z at *
  have hcz : D.cl (.tup [.agg (bs Z), .int .i64 0]) = true := by show (D.cls (bs Z) && true) = true; rw [bs_cl]; rfl
  have hwh : ∀ ze, cut ⟨true, 162, ze⟩ 0 (spD s1) = some (.agg (spD s1)) := spC_whole _ _ _ (hld_len _ (by omega))
  have hlay : ∀ cs : List D, cs.length = 162 → splice 0 (spD s1) cs = some (spD s1) := fun cs hc => spC_lay _ _ _ (hld_len _ (by omega)) cs hc
  have hlen := spD_len _ hAl
  have hf1 := spD_fz1 s1
  have hc1 : D.cls [D.agg (spD s1)] = true := spC_cl1 _ _ _
  have hct : D.cl (.tup [.agg (spD s1), .int .i64 0]) = true := by
    show ((D.agg (spD s1)).cl && true) = true
    rw [spD_cl]; rfl
  have hc0 : D.cl (.agg (spD s0)) = true := spD_cl s0
  have hfa : D.fzs [D.agg (spD s0), D.slice .frozen nb (bs b)] = [D.agg (spD s0), D.slice .frozen nb (bs b)] := by
    show [(D.agg (spD s0)).fz, D.slice .frozen nb (bs b)] = _
    rw [spD_fz]
  have hca : D.cls [D.agg (spD s0), D.slice .frozen nb (bs b)] = true := by
    show ((D.agg (spD s0)).cl && true) = true
    rw [spD_cl]; rfl
  generalize spD s1 = X at *
  generalize spD s0 = X0 at *
  have hwZ := b_cut hZl
  have hclZ : D.cl (.agg (bs Z)) = true := bs_cl _
  clear h0 hsm hnb hAl
  refine pur_intro Tryd.func32 rfl Tryd.ntmps32 rfl hclZ fun B => ?_
  repeat (first | with_reducible (first | refine W_seq ?_ | refine q_then ?_ | refine q_thenr ?_ | refine q_thenx ?_ | refine W_block ?_ | refine q_block ?_ | refine q_blockr ?_ | refine q_blockx ?_ | refine W_ret ?_ | refine W_skip ?_ | refine W_label ?_ | refine W_exit ?_ | refine W_scope ?_ | refine q_scope ?_ | refine q_scoper ?_ | refine q_scopex ?_) | (with_reducible refine R_nil ?_; try dsimp only [slots0, slots_ud, arr_len, arr_cls, arr_fzs, arr_bels, arr_len, arr_cls, arr_fzs, arr_bels, arr_len, arr_cls, arr_fzs, arr_bels, arr_len, arr_cls, arr_fzs, arr_bels, arr_len, arr_cls, arr_fzs, arr_bels, cells_U, agg_ud, drop0, dropS, takeS, take0, ud_nil, take_ud, take_ud0, drop_ud, drop_ud0, take_udk, D.cells, D.fz, D.fzs, List.take_succ_cons, List.take_zero, List.drop_succ_cons, List.drop_zero, List.cons_append, List.nil_append, List.append_eq, List.length_cons, List.length_nil, Nat.reduceAdd, Nat.reduceMul, Nat.reduceSub, Int.reduceAdd, Int.reduceSub, Int.reduceToNat, Int.reduceNeg, Int.reduceMul]) | refine q_blocky rfl ?_ | refine W_plain rfl ?_ | refine W_drawn mixed rfl ?_ | refine and_chk (by kernel_rfl) ?_ | refine k_store rfl rfl rfl rfl (by exact hlen) rfl (by exact hlay _ rfl) ?_ | refine k_load rfl rfl rfl (hwh _) ?_ | refine k_load rfl rfl rfl (hwZ _) ?_ | refine k_store rfl rfl rfl rfl (b_len hZl) (b_fits _) (by exact b_put hZl _ rfl) ?_ | refine k_move rfl rfl ?_ | refine k_assign rfl rfl ?_ | refine k_load rfl rfl rfl rfl ?_ | refine k_alloc rfl ?_ | refine k_store rfl rfl rfl rfl rfl rfl rfl ?_ | refine k_extract rfl rfl rfl ?_ | refine k_call rfl hB rfl rfl rfl hc0 ?_ | refine k_call rfl hA rfl hfa hca hct ?_ | refine k_call rfl hE rfl hf1 hc1 hcz ?_ | (refine k_append rfl rfl rfl ?_ ?_ ?_ rfl ?_ rfl rfl rfl ?_; (first | rfl | exact trivial | (show 0 < _; omega)); (first | rfl | (simp <;> omega)); (first | rfl | (simp <;> omega)); (omega)) | (refine k_slice rfl rfl rfl rfl ⟨?_, ?_, ?_⟩ rfl rfl rfl ?_; (omega); (omega); (omega)) | (refine k_slice3 rfl rfl rfl rfl rfl ⟨?_, ?_, ?_⟩ rfl rfl rfl ?_; (omega); (omega); (omega)) | (refine k_sliceA rfl rfl rfl rfl ⟨?_, ?_, ?_, ?_⟩ rfl rfl ?_; (omega); (omega); (omega); (omega)) | (refine k_sliceE rfl rfl rfl rfl ⟨?_, ?_, ?_, ?_⟩ rfl rfl rfl rfl ?_; (omega); (omega); (omega); (omega)) | refine k_loade rfl rfl rfl ?_ | refine W_yes rfl ?_ | refine W_no rfl ?_)
  (first | with_reducible refine q_endr ?_ | with_reducible refine q_endn ?_); refine rets1 Tryd.results32 (RetV.cell _ _ _ _ _ _ _ _ inferInstance rfl rfl (by exact hwZ _)) ?_
  exact b_fz _
theorem Sum_ok (b : List UInt8) (nb : Nat) (hnb : b.length = nb) (hsm : nb < 1000000) : Pur Tryd.prog 32 [.slice .frozen nb (bs b)] (.agg (bs (kec b))) :=
  Sum_of _ (by decide) Begin_ok b nb hnb hsm
end Go.Proofs.YtpdhbddkcnffbaaDoor
