/- More of what a law's row opens: slices of bytes; arrays of words. No conditions. -/
import Derived.Test.YtbpaimfnfigjpaaRows
import Derived.Test.YtbpaimfnfigjpaaGa
import Derived.ProofKit
import Derived.Carry
import Derived.Lib.SmallJoins
import Derived.Test.YtbpaimfnfigjpaaFlat
import Derived.Deep.Slices
import Derived.Test.YtbpaimfnfigjpaaGd
import Derived.Lib.LaidTab
namespace Go.Proofs.Ytbpaimfnfigjpaa
open Go.ChangeShapes Go.WideShapes Go.RowKit Go.Joins
set_option linter.unusedVariables false
set_option maxRecDepth 100000

theorem own : ownKnob Try.prog.godebug = none := by kernel_rfl
theorem laidOut : laidOutB Try.prog = true := by kernel_rfl

section
variable {H : Type} {enc : TypeId × Value → H} {P : Program}

theorem trodAll_later (hl : laidOutB P = true) {W W' : World} (hb : New W W') {sp : Nat → Bool} : ∀ (ts : List TypeId) (vs : List Value) (ds : List (DataW H)) (ps : List MemPlace),
    (∀ t ∈ ts, P.readableRec t = true ∧ t < P.types.size) → DataW.TrodAll enc P W 0 (fun _ => true) true ts vs ds ps → (∀ x ∈ ps, x.block < W.heap.size) → (∀ x ∈ ps, sp x.block = true) → DataW.TrodAll enc P W' 0 sp true ts vs ds ps
  | [], vs, ds, ps, _, h, _, _ => by
    obtain ⟨rfl, rfl, rfl⟩ := trodAll_nil h
    exact trodAll_mk0
  | t :: ts, vs, ds, ps, hr, h, hlt, hsp => by
    obtain ⟨v, vs', d, ds', p, q, rfl, rfl, rfl, h0, r0⟩ := trodAll_cons h
    obtain ⟨hr0, hr1⟩ := hr t (by simp)
    exact trodAll_cons_mk (WideElems.Trod_stays hl hr0 hr1 h0 (fun x hx => hb.same (hlt x (by simp [hx]))) (fun x hx => hsp x (by simp [hx])))
      (trodAll_later hl hb ts vs' ds' q (fun t ht => hr t (by simp [ht])) r0 (fun x hx => hlt x (by simp [hx])) (fun x hx => hsp x (by simp [hx])))

/-- what a law's row asks of its parameters' types, by looking at them -/
def readableAll (P : Program) (ts : List TypeId) : Bool := ts.all fun t => P.readableRec t && decide (t < P.types.size)

theorem law_post {f : Func} {s : ChangeSpec} {apart fresh handsOn again : Bool} {W W' : World} {args : Array Value} {ds gs : List (DataW H)} {before : List MemPlace} {tb : TypeId}
    (hl : laidOutB P = true) (hr : readableAll P f.params.toList = true) (hres : f.resultTypes = #[tb]) (htb : P.underlying tb = some .bool) (hv : s.vars = [])
    (hW : DataW.Whole enc P f.params.toList s.vars apart W args.toList ds gs before) (hfn : s.fn H (ds ++ gs) = { results := [.lit (.bool true)], args := ds }) (hN : New W W') :
    s.post enc P f apart fresh handsOn again W args (.bool true) W' := by
  have hlt : ∀ p ∈ before, p.block < W.heap.size := fun p hp => hW.lt p hp
  obtain ⟨p, q, hA, hV, rfl, hz, hn⟩ := hW
  have hV' := hV
  rw [hv] at hV'
  obtain ⟨rfl, rfl⟩ := trodVars_none hV'
  have hr' : ∀ t ∈ f.params.toList, P.readableRec t = true ∧ t < P.types.size := fun t ht => by
    unfold readableAll at hr
    have := (List.all_eq_true.1 hr) t ht
    simpa using this
  have hargs : ∀ sp : Nat → Bool, (∀ x ∈ p ++ ([] : List MemPlace), sp x.block = true) → DataW.TrodAll enc P W' 0 sp true f.params.toList args.toList ds p := fun sp hsp =>
    trodAll_later hl hN _ _ _ _ hr' hA (fun x hx => hlt x (by simp [hx])) (fun x hx => hsp x (by simp [hx]))
  have hout : ∀ (b : Nat) (sp : Nat → Bool) (hd : Bool), DataW.TrodAll enc P W' b sp hd f.resultTypes.toList ((Value.bool true).resultList f.resultTypes.size) [.lit (.bool true)] [] := fun b sp hd => by
    rw [hres]; exact trodAll_mk1 (shut_bool htb true)
  have hold : ∀ x ∈ p ++ ([] : List MemPlace), (fun b => decide (b < W.heap.size)) x.block = true := fun x hx => by simpa using hlt x hx
  refine ⟨ds, [], p ++ [], [], p, [], ⟨p, [], hA, hV, rfl, hz, hn⟩, ?_, ?_, ?_, World.keptBut_mono (fun x hx => ⟨hx, ?_⟩) (hN.frame (· ∈ p ++ [])), fun _ => ?_⟩
  · rw [hfn]; exact hout _ _ _
  · rw [hfn]; exact hargs _ hold
  · rw [hfn, hv]; rfl
  · simp at hx; simp [hx]
  · refine ⟨ok_one hres rfl (okWide_bool_mk htb true), [.lit (.bool true)] ++ ds, [], (([] ++ p) ++ []), ⟨[] ++ p, [], trodAll_append (hargs _ (fun _ _ => rfl)) (hout _ _ _), by rw [hv]; rfl, rfl, ?_, ?_⟩, ?_⟩
    · intro b off hp
      have hin : MemPlace.cell b off ∈ p ++ [] := by simpa using hp
      rw [hN.frozen (p := ⟨b, off, none⟩) (hlt _ hin)]
      exact hz b off hin
    · intro ha
      have := hn ha
      simpa using this
    · intro x hx _
      simpa using hx

/-- a raw thing: three ints and a text -/
theorem open_raw {w : World} {base : Nat} {spare : Nat → Bool} {held : Bool} {r : Reach} {b0 : Nat} {v : Value} {d : DataW H} {p : List MemPlace} (hv : Value.okWide Try.prog w r b0 24 v) (h : DataW.Trod enc Try.prog w base spare held 24 v d p) :
    ∃ (k a b : Int) (s : ByteArray), v = .agg #[.int .i64 k, .int .i64 a, .int .i64 b, .string s] ∧ (Lit.int .i64 k).wf = true ∧ (Lit.int .i64 a).wf = true ∧ (Lit.int .i64 b).wf = true ∧ s.size ≤ maxLen := by
  obtain ⟨c0, c1, c2, c3, y0, y1, y2, y3, m, rfl, rfl, rfl, hy0, hy1, hy2, hy3⟩ := open_agg4 Try.underlying24 (by kernel_rfl) (by kernel_rfl) hv h
  obtain ⟨k, e0, _, wk⟩ := DataW.trod_int Try.underlying3 hy0
  obtain ⟨a, e1, _, wa⟩ := DataW.trod_int Try.underlying3 hy1
  obtain ⟨b, e2, _, wb⟩ := DataW.trod_int Try.underlying3 hy2
  obtain ⟨s, e3, _, ws⟩ := DataW.trod_string Try.underlying9 hy3
  simp at e0 e1 e2 e3
  subst e0 e1 e2 e3
  exact ⟨k, a, b, s, rfl, wk, wa, wb, ws⟩
end

end Go.Proofs.Ytbpaimfnfigjpaa

namespace Go.Proofs.Ytbpaimfnfigjpaa
open Go.ChangeShapes Go.WideShapes Go.RowKit Go.Joins Go.Deep
set_option linter.unusedVariables false

/-- all memory that is there, as data -/
def allhw (w : World) : Nat → Nat := fun b => match w.heap[b]? with | some (.cells vs _ _) => vs.size | _ => 0
theorem allhw_ok (w : World) : HwOk (allhw w) w := fun b hb => by
  unfold allhw at hb ⊢
  cases h : w.heap[b]? with
  | none => rw [h] at hb; simp at hb
  | some o => cases o with
    | cells vs T fr => exact ⟨vs, T, fr, rfl, Nat.le_refl _⟩
    | _ => rw [h] at hb; simp at hb

theorem rowAt_le {P : Program} {fits : TypeId → Bool} {d : Nat} {e : TypeId} {count off n : Nat} (h : rowAt P fits d e count off n = true) : off ≤ count * P.cellsOf e := by
  cases d with
  | zero => simp [rowAt] at h
  | succ d =>
    unfold rowAt at h
    simp only at h
    split at h
    · cases h
    · rename_i hs
      have hs : 0 < P.cellsOf e := by omega
      have hd := Nat.div_add_mod off (P.cellsOf e)
      have hm := Nat.mod_lt off hs
      simp only [Bool.or_eq_true, Bool.and_eq_true, beq_iff_eq, decide_eq_true_iff] at h
      rcases h with ⟨⟨h1, h2⟩, _⟩ | ⟨h1, _⟩
      · have : off / P.cellsOf e * P.cellsOf e ≤ count * P.cellsOf e := Nat.mul_le_mul_right _ (by omega)
        rw [Nat.mul_comm] at hd; omega
      · have : (off / P.cellsOf e + 1) * P.cellsOf e ≤ count * P.cellsOf e := Nat.mul_le_mul_right _ h1
        rw [Nat.add_mul] at this
        rw [Nat.mul_comm] at hd; omega
theorem liesAt_le {P : Program} : ∀ {d : Nat} {e : TypeId} {count off : Nat} {u : TypeId} {n : Nat}, liesAt P d e count off u n = true → off ≤ count * P.cellsOf e
  | 0, _, _, _, _, _, h => by simp [liesAt] at h
  | d + 1, e, count, off, u, n, h => by
    unfold liesAt at h
    simp only [Bool.or_eq_true] at h
    rcases h with h | h
    · exact rowAt_le h
    · split at h
      · exact liesAt_le h
      · cases h

/-- a law's walk, whatever data it is told of -/
theorem calls_of_purS {F : FuncId} {ds : List D} {vs : Array Value} {w : World} (h : Pur Try.prog F ds (.bool true)) (hr : Reps (bare (allhw w)) w ds vs) (hg : GTab w [] := by exact gtab_nil _) : Calls Try.prog F vs w fun e w' => e = .returned (.bool true) ∧ New w w' :=
  (h w (allhw w) vs hg (allhw_ok w) hr).mono fun e w' ⟨v, hw', he, hN, _, _, hrv⟩ => by cases hrv; exact ⟨he, hN⟩
end Go.Proofs.Ytbpaimfnfigjpaa

namespace Go.Proofs.Ytbpaimfnfigjpaa
open Go.ChangeShapes Go.WideShapes Go.RowKit Go.Joins Go.Deep Go.Lib
set_option linter.unusedVariables false
set_option maxRecDepth 100000

section
variable {H : Type} {enc : TypeId × Value → H} {P : Program}
/-- the cells of an array of ints -/
theorem ints_of_trod {w : World} {base : Nat} {sp : Nat → Bool} {held : Bool} {fuel : Nat} {t e : TypeId} {n : Nat} {k : IntKind} {cs : List Value} {y : DataW H × List MemPlace}
    (ht : P.underlying t = some (.array n e)) (he : P.underlying e = some (.int k)) (hce : P.cellsOf e = 1) (hct : P.cellsOf t = n)
    (h : DataW.trod enc P w base sp held fuel t cs = some y) : cs.length = n ∧ ∀ i, i < n → ∃ z, cs[i]? = some (.int k z) ∧ (Lit.int k z).wf = true := by
  cases fuel with
  | zero => simp [DataW.trod] at h
  | succ fuel =>
    simp only [DataW.trod, ht, hce, hct, Nat.mul_one] at h
    split at h
    · rename_i hl
      obtain ⟨xs, hm, hx⟩ := Option.map_eq_some_iff.1 h
      refine ⟨hl, fun i hi => ?_⟩
      obtain ⟨b, hb, hf⟩ := mapM_at hm i i (by simp [hi])
      obtain ⟨z, hc, _, wz⟩ := DataW.trod_int he hf
      refine ⟨z, ?_, wz⟩
      have := congrArg (·[0]?) hc
      simpa [List.getElem?_take, List.getElem?_drop] using this
    · cases h
end

section
variable {H : Type} {enc : TypeId × Value → H}
theorem open_bytes {w : World} {base : Nat} {spare : Nat → Bool} {held : Bool} {r : Reach} {b0 : Nat} {v : Value} {d : DataW H} {p : List MemPlace} (hv : Value.okWide Try.prog w r b0 27 v) (h : DataW.Trod enc Try.prog w base spare held 27 v d p) :
    ∃ l : List UInt8, Rep (bare (allhw w)) w (.slice .frozen l.length (bs l)) v := by
  simp only [Value.okWide, Try.underlying27, Cell.okWide, Cell.ok] at hv
  obtain ⟨fuel, hf⟩ := h
  cases v <;> first | exact False.elim hv | skip
  rename_i ao len cap
  cases ao with
  | none =>
    cases len <;> cases cap <;> first | exact False.elim hv | skip
    exact ⟨[], .nil _⟩
  | some ad =>
    obtain ⟨hle, hmxl, _, hsp, row, cells, hsh, hli⟩ := hv
    rcases open_slice Try.underlying27 hf with ⟨h0, _⟩ | ⟨a', len', cap', m, n, Df, Pl, hcs, hb, hl, hmx, hm, _, hx⟩
    · simp [Value.cells] at h0
    · simp only [Value.cells, List.cons.injEq, Value.slice.injEq, Option.some.injEq, and_true] at hcs
      obtain ⟨rfl, rfl, rfl⟩ := hcs
      obtain ⟨b, o, sp⟩ := ad
      simp only at hsp
      subst hsp
      have hC : (Try.prog).cellsOf 5 = 1 := by kernel_rfl
      rw [hC] at hx
      obtain ⟨vs, fr, hblk, hcells⟩ : ∃ vs fr, w.heap[b]? = some (.cells vs row fr) ∧ vs.size = cells := by
        unfold World.shape? at hsh
        split at hsh
        · rename_i c el fr hh
          simp only [Option.some.injEq, Prod.mk.injEq] at hsh
          obtain ⟨rfl, rfl⟩ := hsh
          exact ⟨c, fr, hh, rfl⟩
        · cases hsh
      have hmem : b < w.heap.size := (Array.getElem?_eq_some_iff.1 hblk).1
      have hall : allhw w b = vs.size := by unfold allhw; rw [hblk]
      have ho : o ≤ vs.size := by
        have : o ≤ _ := liesAt_le hli
        have h2 := Nat.div_mul_le_self cells ((Try.prog).cellsOf row)
        omega
      have hcl : ∀ i, w.cell? ⟨b, i, none⟩ = vs[i]? := fun i => cell_of_row w _ _ vs row fr hblk
      have hlm : len ≤ m := by rw [hm]; split <;> omega
      have hel : ∀ i, ∃ x : UInt8, i < len → vs[o + i]? = some (.int .u8 (x.toNat : Int)) := by
        intro i
        by_cases hi : i < len
        · obtain ⟨cs', h1, h2⟩ := hx i (by omega)
          obtain ⟨_, hlen, hat⟩ := World.cells?_some h1
          match cs', hlen with
          | [c0], _ =>
            obtain ⟨k, e0, _, wk⟩ := DataW.trod_int Try.underlying5 h2
            simp at e0
            subst e0
            have hk : 0 ≤ k ∧ k < 256 := by
              have h3 : (decide (IntKind.u8.min ≤ k) && decide (k ≤ IntKind.u8.max)) = true := wk
              rw [Bool.and_eq_true, decide_eq_true_iff, decide_eq_true_iff] at h3
              have e1 : IntKind.u8.min = 0 := by decide
              have e2 : IntKind.u8.max = 255 := by decide
              rw [e1, e2] at h3
              omega
            refine ⟨UInt8.ofNat k.toNat, fun _ => ?_⟩
            have := hat 0 (by decide)
            rw [show ((⟨_, o, none⟩ : Addr).add (i * 1)).add 0 = ⟨_, o + i, none⟩ from by rw [add_off, add_off, Nat.mul_one, Nat.add_zero], hcl] at this
            rw [this, UInt8.toNat_ofNat']
            simp
            omega
        · exact ⟨0, fun h => absurd h hi⟩
      let R : Nat → UInt8 := fun i => Classical.choose (hel i)
      have hR : ∀ i, i < len → vs[o + i]? = some (.int .u8 ((R i).toNat : Int)) := fun i => Classical.choose_spec (hel i)
      refine ⟨(List.range len).map R, ?_⟩
      · have hlen : ((List.range len).map R).length = len := by simp
        rw [hlen]
        have hget : ∀ i, i < len → (bs ((List.range len).map R))[i]? = some (.int .u8 ((R i).toNat : Int)) := fun i hi => bs_get _ i _ (by rw [List.getElem?_map, List.getElem?_range hi]; rfl)
        have hbl : (bs ((List.range len).map R)).length = len := by rw [bs_len, hlen]
        have hsz : o + len ≤ vs.size := by
          rcases Nat.eq_zero_or_pos len with h0 | h0
          · subst h0; omega
          · have := hR (len - 1) (by omega)
            have := (Array.getElem?_eq_some_iff.1 this).1
            omega
        refine .slice .frozen len _ b o cap (vs.extract o (o + len)) (by rw [hbl]; simp; omega) (fun d hd => ⟨?_, D.cls_mem (bs_cl _) d hd⟩) (fun i d v hd hv => ?_) (by show _ ≤ allhw w b; rw [hbl, hall]; exact hsz) (fun i hi => ?_) hmem hle trivial
        · unfold bs at hd
          obtain ⟨x, _, rfl⟩ := List.mem_map.1 hd
          rfl
        · have hi : i < len := by rw [← hbl]; exact (List.getElem?_eq_some_iff.1 hd).1
          rw [hget i hi] at hd
          rw [Array.getElem?_extract, if_pos (by omega), hR i hi] at hv
          cases hd; cases hv
          exact .int _ _
        · rw [hbl] at hi
          rw [hcl, Array.getElem?_extract, if_pos (by omega)]
/-- bytes that a row gives are no more than a process can hold -/
theorem bytes_short {w : World} {base : Nat} {spare : Nat → Bool} {held : Bool} {G : Gh} {v : Value} {d : DataW H} {p : List MemPlace} {n : Nat} {z : List D} (h : DataW.Trod enc Try.prog w base spare held 27 v d p) (hr : Rep G w (.slice .frozen n z) v) (hw : ∀ x ∈ d.weights Try.prog 27, x ≤ reachBytes) : n ≤ 140737488351232 := by
  obtain ⟨fuel, hf⟩ := h
  cases hr with
  | nil tk => exact Nat.zero_le _
  | slice tk n cs b o cap vs hl' h1 hh hhw hc hb' hn ht' =>
    rcases open_slice Try.underlying27 hf with ⟨h0, _⟩ | ⟨a', len', cap', m, n', Df, Pl, hcs, hb, hl, hmx, hm, hd, hx⟩
    · simp [Value.cells] at h0
    · simp only [Value.cells, List.cons.injEq, Value.slice.injEq, Option.some.injEq, and_true] at hcs
      obtain ⟨rfl, rfl, rfl⟩ := hcs
      have hd1 := congrArg Prod.fst hd
      dsimp only at hd1
      subst hd1
      have hC : (Try.prog).bytesOf 5 = 1 := by kernel_rfl
      have := hw ((((List.range n).map Df).length + ((List.range (m - n)).map fun j => Df (n + j)).length) * (Try.prog).bytesOf 5) (by
        unfold DataW.weights
        rw [Try.underlying27]
        exact List.mem_cons_self ..)
      rw [hC] at this
      simp only [List.length_map, List.length_range, reachBytes] at this
      omega
end
end Go.Proofs.Ytbpaimfnfigjpaa
