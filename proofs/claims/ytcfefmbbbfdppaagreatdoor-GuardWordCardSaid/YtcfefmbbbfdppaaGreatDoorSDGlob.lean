/- The program's tables as data: loaded whole, or cell by cell. Of any program. No conditions but that the table lies where it was laid. -/
import Derived.Test.YtcfefmbbbfdppaaGreatDoorSDK2
import Derived.Test.YtcfefmbbbfdppaaGreatDoorSDCode
namespace Go.Proofs.YtcfefmbbbfdppaaGreatDoor.Kec
set_option linter.unusedVariables false
abbrev W := BitVec 64
abbrev S := Nat → W
def rl (x : W) (r : Nat) : W := x.rotateLeft r
def par (a : S) (x : Nat) : W := a x ^^^ a (x + 5) ^^^ a (x + 10) ^^^ a (x + 15) ^^^ a (x + 20)
def dd (c : S) (x : Nat) : W := c ((x + 4) % 5) ^^^ rl (c ((x + 1) % 5)) 1
def theta (a : S) (i : Nat) : W := a i ^^^ dd (par a) (i % 5)
def Eq25 (a b : S) : Prop := ∀ i, i < 25 → a i = b i
def turns : List Nat := [0, 1, 62, 28, 27, 36, 44, 6, 55, 20, 3, 10, 43, 25, 39, 41, 45, 15, 21, 8, 18, 2, 61, 56, 14]
def turnAt (i : Nat) : Nat := turns.getD i 0
def goes (i : Nat) : Nat := i / 5 + 5 * ((2 * (i % 5) + 3 * (i / 5)) % 5)
def comes (j : Nat) : Nat := 5 * (j % 5) + (3 * (j / 5) + j % 5) % 5
theorem goes_comes : ∀ j, j < 25 → goes (comes j) = j ∧ comes j < 25 := by decide
theorem comes_goes : ∀ j, j < 25 → comes (goes j) = j ∧ goes j < 25 := by decide
theorem turnAt_lt : ∀ j, j < 25 → turnAt j < 64 := by decide
def rhopi (a : S) (j : Nat) : W := rl (a (comes j)) (turnAt (comes j))
def chi (b : S) (i : Nat) : W := b i ^^^ (~~~ b ((i % 5 + 1) % 5 + 5 * (i / 5)) &&& b ((i % 5 + 2) % 5 + 5 * (i / 5)))
def iota (k : W) (a : S) (i : Nat) : W := if i = 0 then a 0 ^^^ k else a i
def round (k : W) (a : S) : S := iota k (chi (rhopi (theta a)))
def turn (ks : List W) (a : S) : S := ks.foldl (fun a k => round k a) a
end Go.Proofs.YtcfefmbbbfdppaaGreatDoor.Kec
namespace Go.Proofs.YtcfefmbbbfdppaaGreatDoor
open Go.RowKit Go.IntWalk
set_option linter.unusedVariables false
set_option maxRecDepth 100000
namespace Kec
def wv (x : W) : Int := (x.toNat : Int)
theorem ofInt_wv (x : W) : BitVec.ofInt 64 (wv x) = x := by
  unfold wv; rw [BitVec.ofInt_natCast, BitVec.ofNat_toNat]; simp
theorem wrap_wv (x : W) : IntKind.u64.wrap (x.toNat : Int) = wv x := by
  have := x.isLt
  unfold wv; exact u64_in _ (by omega)
theorem xor_wv (x y : W) : bitw .xor .u64 (wv x) (wv y) = wv (x ^^^ y) := by
  unfold bitw
  show IntKind.u64.wrap ((BitVec.ofInt 64 (wv x) ^^^ BitVec.ofInt 64 (wv y)).toNat : Int) = _
  rw [ofInt_wv, ofInt_wv, wrap_wv]
theorem and_wv (x y : W) : bitw .and .u64 (wv x) (wv y) = wv (x &&& y) := by
  unfold bitw
  show IntKind.u64.wrap ((BitVec.ofInt 64 (wv x) &&& BitVec.ofInt 64 (wv y)).toNat : Int) = _
  rw [ofInt_wv, ofInt_wv, wrap_wv]
theorem or_wv (x y : W) : bitw .or .u64 (wv x) (wv y) = wv (x ||| y) := by
  unfold bitw
  show IntKind.u64.wrap ((BitVec.ofInt 64 (wv x) ||| BitVec.ofInt 64 (wv y)).toNat : Int) = _
  rw [ofInt_wv, ofInt_wv, wrap_wv]
theorem com_wv (x : W) : bitw .xor .u64 (if IntKind.u64.signed then -1 else IntKind.u64.max) (wv x) = wv (~~~ x) := by
  have e : (if IntKind.u64.signed then -1 else IntKind.u64.max) = wv (BitVec.allOnes 64) := by decide
  rw [e, xor_wv, BitVec.allOnes_xor]
theorem shl_wv (x : W) (s : Nat) (hs : s < 64) : IntKind.u64.wrap (wv x * 2 ^ (min ((s : Nat) : Int).toNat IntKind.u64.bits)) = wv (x <<< s) := by
  have e : min ((s : Nat) : Int).toNat IntKind.u64.bits = s := by rw [Int.toNat_natCast]; exact Nat.min_eq_left (by show s ≤ 64; omega)
  rw [e, IntKind.wrap_u64]
  unfold wv
  rw [BitVec.toNat_shiftLeft, Nat.shiftLeft_eq]
  have : (x.toNat : Int) * 2 ^ s = ((x.toNat * 2 ^ s : Nat) : Int) := by push_cast; rfl
  rw [this]
  omega
theorem shr_wv (x : W) (s : Nat) (hs : s ≤ 64) : (wv x).fdiv (2 ^ (min ((s : Nat) : Int).toNat IntKind.u64.bits)) = wv (x >>> s) := by
  have e : min ((s : Nat) : Int).toNat IntKind.u64.bits = s := by rw [Int.toNat_natCast]; exact Nat.min_eq_left hs
  rw [e, Int.fdiv_eq_ediv_of_nonneg _ (by exact Int.le_of_lt (Int.pow_pos (by decide)))]
  unfold wv
  rw [BitVec.toNat_ushiftRight, Nat.shiftRight_eq_div_pow]
  have : (2 : Int) ^ s = ((2 ^ s : Nat) : Int) := by push_cast; rfl
  rw [this, ← Int.natCast_ediv]
def arr (f : S) (n : Nat) : List D := (List.range n).map fun j => D.int .u64 (wv (f j))
theorem arr_len (f : S) (n : Nat) : (arr f n).length = n := by simp [arr]
theorem arr_get (f : S) (n j : Nat) (h : j < n) : (arr f n)[j]? = some (D.int .u64 (wv (f j))) := by
  unfold arr; rw [List.getElem?_map, List.getElem?_range h]; rfl
theorem arr_congr {f g : S} {n : Nat} (h : ∀ j, j < n → f j = g j) : arr f n = arr g n := by
  unfold arr
  refine List.map_congr_left fun j hj => ?_
  rw [h j (List.mem_range.1 hj)]
def upd (f : S) (k : Nat) (v : W) : S := fun j => if j = k then v else f j
theorem arr_cut (f : S) (n k : Nat) (h : k < n) : cut ⟨false, 1, [.int .u64 0]⟩ (0 + ((k : Nat) : Int).toNat * 1) (arr f n) = some (.int .u64 (wv (f k))) := by
  unfold cut
  rw [Int.toNat_natCast, Nat.zero_add, Nat.mul_one, cond_false, arr_get f n k h]
theorem arr_put (f : S) (n k : Nat) (h : k < n) (v : W) : splice (0 + ((k : Nat) : Int).toNat * 1) [D.int .u64 (wv v)] (arr f n) = some (arr (upd f k v) n) := by
  unfold splice
  rw [Int.toNat_natCast, Nat.zero_add, Nat.mul_one, Nat.ble_eq_true_of_le (by rw [arr_len]; simp; omega), cond_true]
  congr 1
  apply List.ext_getElem?
  intro j
  have hl := arr_len f n
  rcases Nat.lt_or_ge j n with hj | hj
  · rw [arr_get _ n j hj, List.append_assoc, List.getElem?_append, List.length_take, hl, show min k n = k from by omega]
    unfold upd
    by_cases h1 : j < k
    · rw [if_pos h1, List.getElem?_take, if_pos h1, arr_get f n j hj, if_neg (by omega)]
    · rw [if_neg h1]
      by_cases h2 : j = k
      · subst h2; rw [Nat.sub_self, if_pos rfl]; rfl
      · rw [List.getElem?_append_right (by simp; omega), List.getElem?_drop, if_neg h2]
        simp only [List.length_cons, List.length_nil]
        rw [show k + (0 + 1) + (j - k - (0 + 1)) = j from by omega, arr_get f n j hj]
  · rw [List.getElem?_eq_none (by simp [hl]; omega), List.getElem?_eq_none (by rw [arr_len]; exact hj)]
theorem arr_cls (f : S) (n : Nat) : D.cls (arr f n) = true := D.cls_of fun d hd => by
  unfold arr at hd
  obtain ⟨j, _, rfl⟩ := List.mem_map.1 hd
  rfl
theorem arr_fzs (f : S) (n : Nat) : D.fzs (arr f n) = arr f n := by
  unfold arr
  induction List.range n with
  | nil => rfl
  | cons j l ih => show (D.int .u64 (wv (f j))).fz :: D.fzs _ = _; rw [ih]; rfl
theorem arr_whole (f : S) (n : Nat) (ze : List D) : cut ⟨true, n, ze⟩ 0 (arr f n) = some (.agg (arr f n)) := by
  unfold cut
  simp only [cond_true, Nat.zero_add, List.drop_zero]
  rw [Nat.ble_eq_true_of_le (by rw [arr_len]; exact Nat.le_refl _), cond_true, List.take_of_length_le (by rw [arr_len]; exact Nat.le_refl _)]
theorem arr_bels (k : Nat) (f : S) (n : Nat) : D.bels k (arr f n) = true := by
  unfold arr
  induction List.range n with
  | nil => rfl
  | cons j l ih => show (true && D.bels k _) = true; rw [ih]; rfl
def cI (a : S) : Nat → S
  | 0 => fun _ => 0
  | i + 1 => upd (cI a i) (i % 5) (cI a i (i % 5) ^^^ a i)
theorem cI_par (a : S) : ∀ x, x < 5 → cI a 25 x = par a x := by
  intro x hx
  have h : x = 0 ∨ x = 1 ∨ x = 2 ∨ x = 3 ∨ x = 4 := by omega
  rcases h with rfl | rfl | rfl | rfl | rfl <;> simp [cI, upd, par]
def bI (t : S) : Nat → S
  | 0 => fun _ => 0
  | i + 1 => upd (bI t i) (goes i) (rl (t i) (turnAt i))
theorem bI_at (t : S) : ∀ i, i ≤ 25 → ∀ j, j < 25 → bI t i j = if comes j < i then rl (t (comes j)) (turnAt (comes j)) else 0 := by
  intro i
  induction i with
  | zero => intro _ j _; rfl
  | succ i ih =>
    intro hi j hj
    have h0 := ih (by omega) j hj
    unfold bI upd
    by_cases e : j = goes i
    · subst e
      have := (comes_goes i (by omega)).1
      rw [if_pos rfl, this, if_pos (by omega)]
    · rw [if_neg e, h0]
      have hne : comes j ≠ i := fun e' => e (by rw [← e', (goes_comes j hj).1])
      by_cases c : comes j < i
      · rw [if_pos c, if_pos (by omega)]
      · rw [if_neg c, if_neg (by omega)]
theorem bI_rhopi (t : S) : Eq25 (bI t 25) (rhopi t) := fun j hj => by
  rw [bI_at t 25 (Nat.le_refl _) j hj, if_pos (goes_comes j hj).2]; rfl
def aI (b a : S) : Nat → S
  | 0 => a
  | i + 1 => upd (aI b a i) i (chi b i)
theorem aI_at (b a : S) : ∀ i j, aI b a i j = if j < i then chi b j else a j := by
  intro i
  induction i with
  | zero => intro j; simp [aI]
  | succ i ih =>
    intro j
    unfold aI upd
    by_cases e : j = i
    · subst e; rw [if_pos rfl, if_pos (by omega)]
    · rw [if_neg e, ih]
      by_cases c : j < i
      · rw [if_pos c, if_pos (by omega)]
      · rw [if_neg c, if_neg (by omega)]
def kons : List W := [0x0000000000000001, 0x0000000000008082, 0x800000000000808a, 0x8000000080008000, 0x000000000000808b, 0x0000000080000001, 0x8000000080008081, 0x8000000000008009, 0x000000000000008a, 0x0000000000000088, 0x0000000080008009, 0x000000008000000a, 0x000000008000808b, 0x800000000000008b, 0x8000000000008089, 0x8000000000008003, 0x8000000000008002, 0x8000000000000080, 0x000000000000800a, 0x800000008000000a, 0x8000000080008081, 0x8000000000008080, 0x0000000080000001, 0x8000000080008008]
end Kec
end Go.Proofs.YtcfefmbbbfdppaaGreatDoor
namespace Go.Proofs.YtcfefmbbbfdppaaGreatDoor
open Go.RowKit
set_option linter.unusedVariables false
set_option linter.unusedSimpArgs false
def ofVals : List Value → Option (List D)
  | [] => some []
  | v :: vs => match ofVal v, ofVals vs with | some d, some ds => some (d :: ds) | _, _ => none
theorem ofVals_reps {G : Gh} {w : World} : ∀ {vs : List Value} {ds : List D}, ofVals vs = some ds → Reps G w ds vs.toArray ∧ ∀ d ∈ ds, d.one = true
  | [], ds, h => by simp [ofVals] at h; subst h; exact ⟨Reps.nil, fun d hd => by simp at hd⟩
  | v :: vs, ds, h => by
    simp only [ofVals] at h
    split at h
    · rename_i d ds' h1 h2
      injection h with h
      subst h
      obtain ⟨h3, h4⟩ := ofVals_reps (G := G) (w := w) h2
      refine ⟨Reps.cons (ofVal_rep h1) h3, fun x hx => ?_⟩
      rcases List.mem_cons.1 hx with rfl | hx
      · exact ofVal_one h1
      · exact h4 x hx
    · cases h
section
variable {P : Program} {o : Oper} {ρ : Slots} {m : Mem}
theorem r_loadg {T : TypeId} {ty : Ty} [ht : HasTy P T ty] {x : Operand} {g off : Nat} {vs : List Value} {cs : List D} {d : D} (ho : o.op = .load T x) (hx : oev ρ x = some (.raw (.pointer (some ⟨g, off, none⟩)))) (hg : (g, vs) ∈ gtab) (hcs : ofVals vs = some cs) (hd : cut ty off cs = some d) : OpSound P o (Eff.val d) ρ m := by
  refine sound_val fun B G a w m' hs h _ => ?_
  obtain ⟨_, T', fr, hv⟩ := hs.gtab_ _ hg
  obtain ⟨hr, h1⟩ := ofVals_reps (G := G) (w := w) hcs
  have hp := h x (by simp [ho, Op.operands]) _ hx
  have he : a.eval x = .pointer (some ⟨g, off, none⟩) := (show ∀ v, Rep G w (.raw (.pointer (some ⟨g, off, none⟩))) v → v = .pointer (some ⟨g, off, none⟩) from fun v h => by cases h; rfl) _ hp
  obtain ⟨v, h2, h3⟩ := run_cut (P := P) (T := T) (b := g) (o := 0) hr h1 (fun i _ => by rw [cell_of_row w _ _ vs.toArray T' fr hv, Nat.zero_add]) hd
  rw [Nat.zero_add] at h2
  exact ⟨v, by simp [execOp, ho, Instr.loadAt, Instr.sureAddr, he, Sem.run_bind, h2], h3⟩
theorem r_indexAddrg {T : TypeId} {x ix : Operand} {n : Nat} {E : TypeId} {ty : Ty} [ha : HasArr P T n E] [ht : HasTy P E ty] {g off : Nat} {k : IntKind} {j : Int} (ho : o.op = .indexAddr T x ix) (hx : oev ρ x = some (.raw (.pointer (some ⟨g, off, none⟩)))) (hix : oev ρ ix = some (.int k j)) (hj : 0 ≤ j ∧ j < n) : OpSound P o (Eff.val (.raw (.pointer (some ⟨g, off + j.toNat * ty.size, none⟩)))) ρ m := by
  refine sound_val fun B G a w m' hs h _ => ?_
  have hp := h x (by simp [ho, Op.operands]) _ hx
  have hq := h ix (by simp [ho, Op.operands]) _ hix
  generalize hev : a.eval x = vx at hp
  generalize hevi : a.eval ix = vi at hq
  cases hq
  cases hp
  obtain ⟨i, hi, hsi⟩ := Option.map_eq_some_iff.1 ht.size
  refine ⟨.pointer (some ⟨g, off + j.toNat * ty.size, none⟩), ?_, .raw _ rfl⟩
  simp [execOp, ho, hev, hevi, Instr.indexAt, Instr.sureAddr, Sem.run_bind, run_underlying ha.arr, asIntOf, hj.1, hj.2, sizeOf, typeInfo, hi, hsi, add_off]
end
section
variable {P : Program} {ρ : Slots} {m : Mem} {nx : Nat} {ops : Array Oper} {os : List Oper} {K : List Eff → Slots → Mem → Nat → Prop}
theorem k_loadg {t : Tmp} {T : TypeId} {ty : Ty} [HasTy P T ty] {x : Operand} {g off : Nat} {vs : List Value} {cs : List D} {d : D} {V : TypeId} {pos : String} {af : Array Edge} {gd : Option (Nat × Bool)} (hg : gok ops ρ ⟨some t, .load T x, V, pos, af, gd⟩ = some true)
    (hx : oev ρ x = some (.raw (.pointer (some ⟨g, off, none⟩)))) (hgt : (g, vs) ∈ gtab) (hcs : ofVals vs = some cs) (hd : cut ty off cs = some d)
    (hh : R P ops os (fun Es => K (Eff.val d :: Es)) ((t, d) :: ρ) m nx) : R P ops (⟨some t, .load T x, V, pos, af, gd⟩ :: os) K ρ m nx := R_cons hg (r_loadg rfl hx hgt hcs hd) rfl hh
theorem k_indexAddrg {t : Tmp} {T : TypeId} {x ix : Operand} {n : Nat} {E : TypeId} {ty : Ty} [HasArr P T n E] [HasTy P E ty] {g off : Nat} {k : IntKind} {j : Int} {V : TypeId} {pos : String} {af : Array Edge} {gd : Option (Nat × Bool)} (hg : gok ops ρ ⟨some t, .indexAddr T x ix, V, pos, af, gd⟩ = some true)
    (hx : oev ρ x = some (.raw (.pointer (some ⟨g, off, none⟩)))) (hix : oev ρ ix = some (.int k j)) (hj : 0 ≤ j ∧ j < n)
    (hh : R P ops os (fun Es => K (Eff.val (.raw (.pointer (some ⟨g, off + j.toNat * ty.size, none⟩))) :: Es)) ((t, .raw (.pointer (some ⟨g, off + j.toNat * ty.size, none⟩))) :: ρ) m nx) : R P ops (⟨some t, .indexAddr T x ix, V, pos, af, gd⟩ :: os) K ρ m nx := R_cons hg (r_indexAddrg rfl hx hix hj) rfl hh
end
end Go.Proofs.YtcfefmbbbfdppaaGreatDoor
