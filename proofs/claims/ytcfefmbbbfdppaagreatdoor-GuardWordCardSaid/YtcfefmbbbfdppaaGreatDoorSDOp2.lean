/- What more kinds of operation do to data as trees: what is built, compared, picked, how long it is. Of any program. No conditions. -/
import Derived.Test.YtcfefmbbbfdppaaGreatDoorSDCode
namespace Go.Proofs.YtcfefmbbbfdppaaGreatDoor
open Go.RowKit
set_option linter.unusedVariables false
set_option linter.unusedSimpArgs false
section
variable {P : Program} {o : Oper} {ρ : Slots} {m : Mem}
theorem r_pickT {c x y : Operand} {d : D} (ho : o.op = .pick c x y) (hc : oev ρ c = some (.bool true)) (hx : oev ρ x = some d) : OpSound P o (Eff.val d) ρ m := by
  refine sound_val fun B G a w m' _ hh _ => ?_
  have hp := hh c (by simp [ho, Op.operands]) _ hc
  generalize hev : a.eval c = vc at hp
  cases hp
  exact ⟨a.eval x, by simp [execOp, ho, hev, asBool], hh x (by simp [ho, Op.operands]) d hx⟩
theorem r_pickF {c x y : Operand} {d : D} (ho : o.op = .pick c x y) (hc : oev ρ c = some (.bool false)) (hy : oev ρ y = some d) : OpSound P o (Eff.val d) ρ m := by
  refine sound_val fun B G a w m' _ hh _ => ?_
  have hp := hh c (by simp [ho, Op.operands]) _ hc
  generalize hev : a.eval c = vc at hp
  cases hp
  exact ⟨a.eval y, by simp [execOp, ho, hev, asBool], hh y (by simp [ho, Op.operands]) d hy⟩
theorem r_nilCheck {x : Operand} {d : D} (ho : o.op = .nilCheck x) (hx : oev ρ x = some d) (hd : (match d with | .ptr _ _ | .eptr _ => true | _ => false) = true) : OpSound P o (Eff.val d) ρ m := by
  refine sound_val fun B G a w m' _ hh _ => ?_
  have hp := hh x (by simp [ho, Op.operands]) _ hx
  generalize hev : a.eval x = vx at hp
  cases hp <;> simp at hd
  · rename_i l off hk
    exact ⟨_, by simp [execOp, ho, hev], .ptr l off hk⟩
  · rename_i cs b o' vs hl h1 h hh' hc
    exact ⟨_, by simp [execOp, ho, hev], .eptr cs b o' vs hl h1 h hh' hc⟩
theorem run_len_ {t : TypeId} {v : Value} {w : World} {x : Operand} {a : Act} (ho : o.op = .call { callee := .builtin .len, args := #[x], argTypes := #[t] }) (he : a.eval x = v) {n : Int} (h : (Builtin.len_ #[t] o.type #[v]).run P w = .ok (.int .i64 n) w) : (execOp a.eval o).run P w = .ok (.value (.int .i64 n)) w := by
  simp only [execOp, ho, resolve, Sem.run_bind, Sem.run_pure, Result.andThen_ok, invoke]
  simp [builtin, he, Sem.run_bind, h]
theorem r_len {t E : TypeId} [ha : HasSl P t E] {x : Operand} {tk : Tok} {n : Nat} {cs : List D} (ho : o.op = .call { callee := .builtin .len, args := #[x], argTypes := #[t] }) (hx : oev ρ x = some (.slice tk n cs)) : OpSound P o (Eff.val (.int .i64 n)) ρ m := by
  refine sound_val fun B G a w m' _ hh _ => ?_
  have hp := hh x (by simp [ho, Op.operands, Call.operands]) _ hx
  generalize hev : a.eval x = vx at hp
  refine ⟨.int .i64 n, run_len_ ho hev ?_, .int _ _⟩
  cases hp <;> simp [Builtin.len_, Sem.run_bind, run_underlying ha.sl, goInt]
class HasPlaces (P : Program) (T : TypeId) (pl : outParam (List (Nat × Nat))) : Prop where
  pl : (∃ fs, P.underlying T = some (.struct fs) ∧ ∀ w, (fs.mapM fun f => do pure (f.offset, ← sizeOf f.type) : Sem (Array (Nat × Nat))).run P w = .ok pl.toArray w) ∨
    (∃ n E s, P.underlying T = some (.array n E) ∧ (P.info? E).map (·.size) = some s ∧ pl = (List.range n).map fun i => (i * s, s))
def dfill (pl : List (Nat × Nat)) : List D → List (Nat × D) → Option (List D)
  | cs, [] => some cs
  | cs, (i, d) :: rest => match pl[i]? with
    | some (off, n) => cond (Nat.beq d.cells.length n && d.fits) (match splice off d.cells cs with | some cs' => dfill pl cs' rest | none => none) none
    | none => none
def pevs (ρ : Slots) : List (Nat × Operand) → Option (List (Nat × D))
  | [] => some []
  | (i, x) :: xs => match oev ρ x, pevs ρ xs with | some d, some ds => some ((i, d) :: ds) | _, _ => none
theorem foldl_set (vs : List Value) : ∀ (k off : Nat) (cs : Array Value), off + k + vs.length ≤ cs.size →
    ((vs.zipIdx k).foldl (fun cs (x : Value × Nat) => cs.setIfInBounds (off + x.2) x.1) cs).toList = cs.toList.take (off + k) ++ vs ++ cs.toList.drop (off + k + vs.length) := by
  induction vs with
  | nil => intro k off cs _; simp
  | cons v vs ih =>
    intro k off cs h
    simp only [List.length_cons] at h
    rw [List.zipIdx_cons, List.foldl_cons, ih (k + 1) off _ (by simp; omega)]
    apply List.ext_getElem?
    intro i
    simp only [Array.toList_setIfInBounds, List.getElem?_append, List.length_append, List.length_take, List.length_set, List.length_cons, Array.length_toList]
    rw [show min (off + (k + 1)) cs.size = off + k + 1 from by omega, show min (off + k) cs.size = off + k from by omega]
    by_cases c1 : i < off + k
    · simp [c1, show i < off + k + 1 from by omega, show i < off + k + 1 + vs.length from by omega, show i < off + k + (vs.length + 1) from by omega, List.getElem?_take, List.getElem?_set, show ¬ off + k = i from by omega]
      simp [show off + (k + 1) = off + k + 1 from by omega, show i < off + k + 1 from by omega]
      intro h; omega
    · by_cases c2 : i = off + k
      · subst c2
        simp [List.getElem?_take, List.getElem?_set, show off + k < cs.size from by omega]
        simp [show off + (k + 1) = off + k + 1 from by omega]
        intro h; omega
      · by_cases c3 : i < off + k + 1 + vs.length
        · have e1 : ¬ i < off + k + 1 := by omega
          simp only [e1, c3, c1, show i < off + k + (vs.length + 1) from by omega, if_true, if_false]
          rw [show i - (off + k) = (i - (off + k + 1)) + 1 from by omega]; simp
        · simp only [c3, show ¬ i < off + k + (vs.length + 1) from by omega, if_false]
          rw [List.getElem?_drop, List.getElem?_drop, List.getElem?_set]
          rw [if_neg (by omega)]
          congr 1; omega
theorem fill_reps {G : Gh} {w : World} {place : Nat → Option (Nat × Nat)} {pl : List (Nat × Nat)} (hp : ∀ i x, pl[i]? = some x → place i = some x) : ∀ (xs : List (Nat × D)) (ys : List (Nat × Value)) (cs cs' : List D) (vs : Array Value), ys.length = xs.length →
    (∀ (i : Nat) (x : Nat × D) (y : Nat × Value), xs[i]? = some x → ys[i]? = some y → x.1 = y.1 ∧ Rep G w x.2 y.2) → Reps G w cs vs → (∀ d ∈ cs, d.one = true) → dfill pl cs xs = some cs' → ∃ vs', Instr.fill place vs ys = some vs' ∧ Reps G w cs' vs' ∧ ∀ d ∈ cs', d.one = true
  | [], [], cs, cs', vs, _, _, hr, h1, h => by simp [dfill] at h; subst h; exact ⟨vs, rfl, hr, h1⟩
  | [], _ :: _, _, _, _, hl, _, _, _, _ => by simp at hl
  | _ :: _, [], _, _, _, hl, _, _, _, _ => by simp at hl
  | (i, d) :: xs, (j, v) :: ys, cs, cs', vs, hl, hxy, hr, h1, h => by
    obtain ⟨e, hrep⟩ := hxy 0 (i, d) (j, v) (by simp) (by simp)
    simp only at e hrep
    subst e
    simp only [dfill] at h
    split at h
    · rename_i off n hpl
      rcases Bool.eq_false_or_eq_true (Nat.beq d.cells.length n && d.fits) with hb | hb
      · simp only [hb, cond_true] at h
        simp only [Bool.and_eq_true] at hb
        have hn := Nat.eq_of_beq_eq_true hb.1
        have hd : d.one = true ∨ ∃ cs, d = .agg cs := by have := hb.2; cases d <;> simp_all [D.one, D.fits]
        split at h
        · rename_i cs1 hs
          obtain ⟨hc1, hc2⟩ := hrep.cells hd
          obtain ⟨hle, hr', h1'⟩ := hr.splice hc1 h1 hc2 hs
          have hsz : v.cells.size = n := by rw [hc1.1, hn]
          have hfold := foldl_set v.cells.toList 0 off vs (by simp; omega)
          simp only [Nat.add_zero, Array.length_toList] at hfold
          have harr : (v.cells.zipIdx.foldl (fun cs (c, j) => cs.setIfInBounds (off + j) c) vs) = (vs.toList.take off ++ v.cells.toList ++ vs.toList.drop (off + v.cells.size)).toArray := by
            rw [← Array.foldl_toList, Array.toList_zipIdx]
            apply Array.toList_inj.1
            rw [← hfold]
          obtain ⟨vs', h2, h3⟩ := fill_reps hp xs ys cs1 cs' _ (by simpa using hl) (fun k x y hx hy => hxy (k + 1) x y (by simpa using hx) (by simpa using hy)) hr' h1' h
          refine ⟨vs', ?_, h3⟩
          rw [Instr.fill, hp i _ hpl]
          simp only
          rw [if_neg (by simp; omega), harr, h2]
        · cases h
      · simp only [hb, cond_false] at h; cases h
    · cases h
theorem pevs_reps {G : Gh} {w : World} {a : Act} {ρ : Slots} : ∀ {xs : List (Nat × Operand)} {ds : List (Nat × D)}, pevs ρ xs = some ds → (∀ x ∈ xs, ∀ d, oev ρ x.2 = some d → Rep G w d (a.eval x.2)) →
    (xs.map fun x => (x.1, a.eval x.2)).length = ds.length ∧ ∀ (i : Nat) (x : Nat × D) (y : Nat × Value), ds[i]? = some x → (xs.map fun x => (x.1, a.eval x.2))[i]? = some y → x.1 = y.1 ∧ Rep G w x.2 y.2
  | [], ds, h, _ => by simp [pevs] at h; subst h; exact ⟨rfl, fun i x y hx => by simp at hx⟩
  | (j, x) :: xs, ds, h, hx => by
    simp only [pevs] at h
    split at h
    · rename_i d ds' h1 h2
      injection h with h
      subst h
      obtain ⟨e1, e2⟩ := pevs_reps h2 fun y hy => hx y (by simp [hy])
      refine ⟨by simp at e1 ⊢; exact e1, fun i u v hu hv => ?_⟩
      cases i with
      | zero => simp at hu hv; subst hu; subst hv; exact ⟨rfl, hx (j, x) (by simp) d h1⟩
      | succ i => exact e2 i u v (by simpa using hu) (by simpa using hv)
    · cases h
theorem r_build {T : TypeId} {ty : Ty} {pl : List (Nat × Nat)} [ht : HasTy P T ty] [hpl : HasPlaces P T pl] {parts : Array (Nat × Operand)} {xs : List (Nat × D)} {cs : List D} (ho : o.op = .build T parts) (hx : pevs ρ parts.toList = some xs) (hf : dfill pl ty.zero xs = some cs) : OpSound P o (Eff.val (.agg cs)) ρ m := by
  refine sound_val fun B G a w m' _ hh _ => ?_
  obtain ⟨z, hz, hzr, hz1⟩ := ht.zero_
  obtain ⟨i, hi, hiz⟩ := Option.bind_eq_some_iff.1 hz
  obtain ⟨e1, e2⟩ := pevs_reps (G := G) (w := w) (a := a) hx fun x hx' => hh x.2 (by rw [ho]; simp [Op.operands]; exact ⟨x.1, by simpa using hx'⟩)
  have key : ∀ (place : Nat → Option (Nat × Nat)), (∀ i x, pl[i]? = some x → place i = some x) → ∃ vs', Instr.fill place z.cells (parts.map fun (i, x) => (i, a.eval x)).toList = some vs' ∧ Rep G w (.agg cs) (.agg vs') := by
    intro place hplace
    obtain ⟨vs', h1, h2, h3⟩ := fill_reps hplace xs (parts.toList.map fun x => (x.1, a.eval x.2)) ty.zero cs z.cells e1 e2 (hzr G w) hz1 hf
    exact ⟨vs', by rw [Array.toList_map]; exact h1, .agg _ _ h2.1 h3 h2.2⟩
  rcases hpl.pl with ⟨fs, hu, hpl⟩ | ⟨n, E, s, hu, hs, rfl⟩
  · obtain ⟨vs', h1, h2⟩ := key (pl.toArray[·]?) (fun i x h => by simpa using h)
    refine ⟨.agg vs', ?_, h2⟩
    simp only [execOp, ho, Instr.build, Sem.run_bind, zeroValue, typeInfo, run_program, Result.andThen_ok, hi, hiz, Sem.run_pure, run_underlying hu, hpl w, h1]
  · obtain ⟨j, hj, hjs⟩ := Option.map_eq_some_iff.1 hs
    obtain ⟨vs', h1, h2⟩ := key (fun i => some (i * s, s)) (fun i x h => by
      simp only [List.getElem?_map, Option.map_eq_some_iff] at h
      obtain ⟨k, hk, rfl⟩ := h
      rw [List.getElem?_range (by rcases Nat.lt_or_ge i n with h' | h'; exact h'; rw [List.getElem?_eq_none (by simpa using h')] at hk; cases hk)] at hk
      injection hk with hk
      subst hk; rfl)
    refine ⟨.agg vs', ?_, h2⟩
    simp only [execOp, ho, Instr.build, Sem.run_bind, zeroValue, sizeOf, typeInfo, run_program, Result.andThen_ok, hi, hiz, Sem.run_pure, run_underlying hu, hj, hjs, h1]
inductive LK where
  | int (k : IntKind)
  | bool
  | str
def D.lk : D → Option LK
  | .int k _ => some (.int k)
  | .bool _ => some .bool
  | .str _ => some .str
  | _ => none
def lks : List D → Option (List LK)
  | [] => some []
  | d :: ds => match d.lk, lks ds with | some k, some ks => some (k :: ks) | _, _ => none
def deq1 : D → D → Bool
  | .int _ a, .int _ b => a == b
  | .bool a, .bool b => a == b
  | .str a, .str b => a == b
  | _, _ => false
def deqs : List D → List D → Bool
  | d :: ds, e :: es => deq1 d e && deqs ds es
  | _, _ => true
theorem lks_at : ∀ {ds : List D} {ks : List LK}, lks ds = some ks → ds.length = ks.length ∧ ∀ off n, lks ((ds.drop off).take n) = some ((ks.drop off).take n)
  | [], ks, h => by simp [lks] at h; subst h; simp [lks]
  | d :: ds, ks, h => by
    simp only [lks] at h
    split at h
    · rename_i k ks' h1 h2
      injection h with h
      subst h
      obtain ⟨e1, e2⟩ := lks_at h2
      refine ⟨by simp [e1], fun off n => ?_⟩
      cases off with
      | zero =>
        cases n with
        | zero => simp [lks]
        | succ n =>
          have := e2 0 n
          simp only [List.drop_zero] at this
          simp [lks, h1, this]
      | succ off => simpa using e2 off n
    · cases h
theorem lks_get : ∀ {ds : List D} {ks : List LK}, lks ds = some ks → ∀ (i : Nat) (d : D), ds[i]? = some d → ∃ k, ks[i]? = some k ∧ d.lk = some k
  | [], ks, h, i, d, hd => by simp at hd
  | x :: ds, ks, h, i, d, hd => by
    simp only [lks] at h
    split at h
    · rename_i k ks' h1 h2
      injection h with h
      subst h
      cases i with
      | zero => simp at hd; subst hd; exact ⟨k, by simp, h1⟩
      | succ i => obtain ⟨k', h3, h4⟩ := lks_get h2 i d (by simpa using hd); exact ⟨k', by simpa using h3, h4⟩
    · cases h
theorem deqs_split : ∀ (n : Nat) (ds es : List D), ds.length = es.length → deqs ds es = (deqs (ds.take n) (es.take n) && deqs (ds.drop n) (es.drop n))
  | 0, ds, es, _ => by simp [deqs]
  | n + 1, [], es, h => by simp [deqs]
  | n + 1, _ :: _, [], h => by simp at h
  | n + 1, d :: ds, e :: es, h => by
    simp only [List.take_succ_cons, List.drop_succ_cons, deqs]
    rw [deqs_split n ds es (by simpa using h), Bool.and_assoc]
def Fit (ag : Bool) (ks : List LK) (d : D) : Prop := if ag then ∃ cs, d = .agg cs ∧ lks cs = some ks else lks [d] = some ks
def EqD (P : Program) (h : Nat) (T : TypeId) (ag : Bool) (ks : List LK) : Prop :=
  ∀ dp, h ≤ dp → ∀ (G : Gh) (w : World) (d e : D) (u v : Value), Fit ag ks d → Fit ag ks e → Rep G w d u → Rep G w e v → (Op.equalIn dp T u v).run P w = .ok (deqs d.cells e.cells) w
theorem lks_one {d : D} {k : LK} (h : lks [d] = some [k]) : d.lk = some k := by
  obtain ⟨k', h1, h2⟩ := lks_get h 0 d (by simp)
  simp at h1
  rw [h1]; exact h2
theorem eqd_int {T : TypeId} {k : IntKind} (hu : P.underlying T = some (.int k)) : EqD P 1 T false [.int k] := by
  intro dp hdp G w d e u v hd he hr hr'
  obtain ⟨dp, rfl⟩ : ∃ n, dp = n + 1 := ⟨dp - 1, by omega⟩
  have h1 := lks_one hd
  have h2 := lks_one he
  cases d <;> simp [D.lk] at h1
  cases e <;> simp [D.lk] at h2
  subst h1; subst h2
  cases hr; cases hr'
  rw [run_equalIn_int w dp T _ _ _ _ hu]
  simp [D.cells, deqs, deq1]
theorem part_fit {G : Gh} {w : World} {T : TypeId} {ty : Ty} [ht : HasTy P T ty] {ds : List D} {vs : Array Value} (h : Reps G w ds vs) (h1 : ∀ d ∈ ds, d.one = true) {ks : List LK} {off : Nat} (hk : lks ((ds.drop off).take ty.size) = some ks) (hle : off + ty.size ≤ ds.length) (hag : ty.agg = false → ty.size = 1) :
    ∃ d v, (part T vs off).run P w = .ok v w ∧ Rep G w d v ∧ Fit ty.agg ks d ∧ d.cells = (ds.drop off).take ty.size := by
  cases ha : ty.agg with
  | true =>
    obtain ⟨v, h2, h3, _⟩ := Reps.cut_ (P := P) (T := T) (ty := ty) h h1 (off := off) (d := .agg ((ds.drop off).take ty.size)) (by unfold cut; rw [ha]; simp only [cond_true]; rw [Nat.ble_eq_true_of_le hle]; rfl)
    exact ⟨_, v, h2, h3, ⟨_, rfl, hk⟩, rfl⟩
  | false =>
    have hs := hag ha
    rw [hs] at hle hk ⊢
    have hlt : off < ds.length := by omega
    have hd : ds[off]? = some ds[off] := List.getElem?_eq_getElem hlt
    have hone := h1 _ (List.getElem_mem hlt)
    obtain ⟨v, h2, h3, _⟩ := Reps.cut_ (P := P) (T := T) (ty := ty) h h1 (off := off) (d := ds[off]) (by unfold cut; rw [ha]; simp only [cond_false]; exact hd)
    have e : (ds.drop off).take 1 = [ds[off]] := by rw [List.drop_eq_getElem_cons hlt]; rfl
    rw [e] at hk
    refine ⟨ds[off], v, h2, h3, hk, ?_⟩
    rw [e]
    generalize ds[off] = d at hone
    cases d <;> first | rfl | (simp [D.one] at hone)
def flat (n : Nat) (ks : List LK) : List LK := (List.replicate n ks).flatten
theorem flat_length (n : Nat) (ks : List LK) : (flat n ks).length = n * ks.length := by
  induction n with
  | zero => simp [flat]
  | succ n ih => unfold flat at ih ⊢; rw [List.replicate_succ, List.flatten_cons, List.length_append, ih, Nat.succ_mul, Nat.add_comm]
theorem flat_at (ks : List LK) : ∀ (n i : Nat), i < n → ((flat n ks).drop (i * ks.length)).take ks.length = ks
  | 0, i, h => by omega
  | n + 1, 0, _ => by
    unfold flat
    rw [List.replicate_succ, List.flatten_cons]
    simp
  | n + 1, i + 1, h => by
    have := flat_at ks n i (by omega)
    unfold flat at this ⊢
    rw [List.replicate_succ, List.flatten_cons, Nat.succ_mul, Nat.add_comm (i * ks.length), ← List.drop_drop, List.drop_left]
    exact this
theorem eqd_arr {h : Nat} {T E : TypeId} {n : Nat} {ty : Ty} {ks : List LK} [ht : HasTy P E ty] (hu : P.underlying T = some (.array n E)) (hE : EqD P h E ty.agg ks) (hks : ks.length = ty.size) (hag : ty.agg = false → ty.size = 1) : EqD P (h + 1) T true (flat n ks) := by
  intro dp hdp G w d e u v hd he hr hr'
  obtain ⟨dp, rfl⟩ : ∃ k, dp = k + 1 := ⟨dp - 1, by omega⟩
  obtain ⟨cs, rfl, hcs⟩ := hd
  obtain ⟨es, rfl, hes⟩ := he
  cases hr with
  | agg _ xs hl1 o1 r1 =>
  cases hr' with
  | agg _ ys hl2 o2 r2 =>
  obtain ⟨i, hi, his⟩ := Option.map_eq_some_iff.1 ht.size
  rw [run_equalIn_array w dp xs ys hu hi]
  have hc : P.cellsOf E = ty.size := by simp [Program.cellsOf, ht.size]
  rw [hc, List.range_eq_range']
  obtain ⟨l1, k1⟩ := lks_at hcs
  obtain ⟨l2, k2⟩ := lks_at hes
  rw [flat_length, hks] at l1 l2
  have key : ∀ (m j : Nat), j + m ≤ n → (Op.eqItems dp E ty.size xs ys (List.range' j m)).run P w = .ok (deqs ((cs.drop (j * ty.size)).take (m * ty.size)) ((es.drop (j * ty.size)).take (m * ty.size))) w := by
    intro m
    induction m with
    | zero => intro j _; simp [Op.eqItems, deqs]
    | succ m ih =>
      intro j hj
      have hle : j * ty.size + ty.size ≤ n * ty.size := by rw [← Nat.succ_mul]; exact Nat.mul_le_mul_right _ (by omega)
      have hkk : ((flat n ks).drop (j * ty.size)).take ty.size = ks := by rw [← hks]; exact flat_at ks n j (by omega)
      obtain ⟨d1, v1, p1, q1, f1, c1⟩ := part_fit (P := P) (T := E) (G := G) (w := w) ⟨hl1, r1⟩ o1 (off := j * ty.size) (by rw [k1, hkk]) (by omega) hag
      obtain ⟨d2, v2, p2, q2, f2, c2⟩ := part_fit (P := P) (T := E) (G := G) (w := w) ⟨hl2, r2⟩ o2 (off := j * ty.size) (by rw [k2, hkk]) (by omega) hag
      have hq := hE dp (by omega) G w d1 d2 v1 v2 f1 f2 q1 q2
      rw [List.range'_succ]
      simp only [Op.eqItems, Sem.run_bind, p1, p2, Result.andThen_ok, hq]
      have hsp : deqs ((cs.drop (j * ty.size)).take ((m + 1) * ty.size)) ((es.drop (j * ty.size)).take ((m + 1) * ty.size)) = (deqs d1.cells d2.cells && deqs ((cs.drop ((j + 1) * ty.size)).take (m * ty.size)) ((es.drop ((j + 1) * ty.size)).take (m * ty.size))) := by
        rw [deqs_split ty.size _ _ (by simp; omega), c1, c2]
        have e1 : ∀ (zs : List D), ((zs.drop (j * ty.size)).take ((m + 1) * ty.size)).take ty.size = (zs.drop (j * ty.size)).take ty.size := fun zs => by
          rw [List.take_take, Nat.min_eq_left (by rw [Nat.succ_mul]; omega)]
        have e2 : ∀ (zs : List D), ((zs.drop (j * ty.size)).take ((m + 1) * ty.size)).drop ty.size = (zs.drop ((j + 1) * ty.size)).take (m * ty.size) := fun zs => by
          rw [List.drop_take, List.drop_drop, Nat.succ_mul, Nat.succ_mul, Nat.add_sub_cancel]
        rw [e1, e1, e2, e2]
      rw [hsp]
      cases deqs d1.cells d2.cells with
      | true => simpa using ih (j + 1) (by omega)
      | false => simp
  have := key n 0 (by omega)
  rw [this, Nat.zero_mul, List.drop_zero, List.drop_zero, List.take_of_length_le (by omega), List.take_of_length_le (by omega)]
  rfl
inductive EqF (P : Program) (h : Nat) : List Field → Nat → List LK → Prop where
  | nil (off : Nat) : EqF P h [] off []
  | cons (f : Field) (fs : List Field) (F off : Nat) (ty : Ty) (ks ks' : List LK) (hF : f.type = F) (hn : f.name ≠ "_") (ho : f.offset = off) (ht : HasTy P F ty) (hE : EqD P h F ty.agg ks) (hks : ks.length = ty.size) (hag : ty.agg = false → ty.size = 1) (t : EqF P h fs (off + ty.size) ks') : EqF P h (f :: fs) off (ks ++ ks')
theorem eqd_struct {h : Nat} {T : TypeId} {fs : Array Field} {ks : List LK} (hu : P.underlying T = some (.struct fs)) (hp : P.stoodInHeld T = false) (hf : EqF P h fs.toList 0 ks) : EqD P (h + 1) T true ks := by
  intro dp hdp G w d e u v hd he hr hr'
  obtain ⟨dp, rfl⟩ : ∃ k, dp = k + 1 := ⟨dp - 1, by omega⟩
  obtain ⟨cs, rfl, hcs⟩ := hd
  obtain ⟨es, rfl, hes⟩ := he
  cases hr with
  | agg _ xs hl1 o1 r1 =>
  cases hr' with
  | agg _ ys hl2 o2 r2 =>
  have hfo : P.fieldsOf T = fs := by unfold Program.fieldsOf; rw [hu]
  rw [run_equalIn_struct w dp T xs ys (by rw [hfo]; exact hu) hp, hfo]
  have key : ∀ (fl : List Field) (off : Nat) (kk : List LK), EqF P h fl off kk → off + kk.length ≤ cs.length → off + kk.length ≤ es.length → lks ((cs.drop off).take kk.length) = some kk → lks ((es.drop off).take kk.length) = some kk →
      (Op.eqFields dp xs ys fl).run P w = .ok (deqs ((cs.drop off).take kk.length) ((es.drop off).take kk.length)) w := by
    intro fl off kk hfl
    induction hfl with
    | nil off => intro _ _ _ _; simp [Op.eqFields, deqs]
    | cons f fs F off ty ks ks' hF hn ho ht hE hks hag _ ih =>
      intro a1 a2 b1 b2
      simp only [List.length_append] at a1 a2 b1 b2 ⊢
      have e1 : ∀ (zs : List D), ((zs.drop off).take (ks.length + ks'.length)).take ks.length = (zs.drop off).take ks.length := fun zs => by
        rw [List.take_take, Nat.min_eq_left (by omega)]
      have e2 : ∀ (zs : List D), ((zs.drop off).take (ks.length + ks'.length)).drop ks.length = (zs.drop (off + ks.length)).take ks'.length := fun zs => by
        rw [List.drop_take, List.drop_drop, Nat.add_sub_cancel_left]
      have s1 := (lks_at b1).2 0 ks.length
      have s2 := (lks_at b2).2 0 ks.length
      have t1 := (lks_at b1).2 ks.length ks'.length
      have t2 := (lks_at b2).2 ks.length ks'.length
      rw [List.drop_zero, List.drop_zero, e1, List.take_left] at s1 s2
      rw [e2, List.take_take, Nat.min_self, List.drop_left, List.take_length] at t1 t2
      obtain ⟨d1, v1, p1, q1, f1, c1⟩ := part_fit (P := P) (T := F) (G := G) (w := w) ⟨hl1, r1⟩ o1 (off := off) (by rw [← hks]; exact s1) (by omega) hag
      obtain ⟨d2, v2, p2, q2, f2, c2⟩ := part_fit (P := P) (T := F) (G := G) (w := w) ⟨hl2, r2⟩ o2 (off := off) (by rw [← hks]; exact s2) (by omega) hag
      have hq := hE dp (by omega) G w d1 d2 v1 v2 f1 f2 q1 q2
      simp only [Op.eqFields, hn, ne_eq, not_false_eq_true, if_true, Sem.run_bind, hF, ho, p1, p2, Result.andThen_ok, hq]
      have hsp : deqs ((cs.drop off).take (ks.length + ks'.length)) ((es.drop off).take (ks.length + ks'.length)) = (deqs d1.cells d2.cells && deqs ((cs.drop (off + ks.length)).take ks'.length) ((es.drop (off + ks.length)).take ks'.length)) := by
        rw [deqs_split ks.length _ _ (by simp; omega), c1, c2, e1, e1, e2, e2, hks]
      rw [hsp]
      have := ih (by omega) (by omega) (by rw [← hks]; exact t1) (by rw [← hks]; exact t2)
      rw [← hks] at this
      cases deqs d1.cells d2.cells with
      | true => simpa using this
      | false => simp
  obtain ⟨l1, k1⟩ := lks_at hcs
  obtain ⟨l2, k2⟩ := lks_at hes
  have := key fs.toList 0 ks hf (by omega) (by omega) (by rw [List.drop_zero, ← l1, List.take_length]; exact hcs) (by rw [List.drop_zero, ← l2, List.take_length]; exact hes)
  rw [this, List.drop_zero, List.drop_zero, ← l1, List.take_length, l1, ← l2, List.take_length]
  rfl
class EqT (P : Program) (T : TypeId) (ag : outParam Bool) (ks : outParam (List LK)) : Prop where
  eq : ∃ h, h ≤ 10000 ∧ EqD P h T ag ks
  guard : P.eqGuardType P.depth T = false
theorem run_eq_agg {T : TypeId} {x y : Operand} {ks : List LK} [he : EqT P T true ks] {G : Gh} {w : World} {cs es : List D} {u v : Value} (hc : lks cs = some ks) (hd : lks es = some ks) (h1 : Rep G w (.agg cs) u) (h2 : Rep G w (.agg es) v) :
    (do eqGuard .eql T x y u v; binOp .eql T u v : Sem Value).run P w = .ok (.bool (deqs cs es)) w ∧ (do eqGuard .neq T x y u v; binOp .neq T u v : Sem Value).run P w = .ok (.bool (!deqs cs es)) w := by
  obtain ⟨h, hle, hE⟩ := he.eq
  have hq := hE 10000 hle G w (.agg cs) (.agg es) u v (by unfold Fit; exact ⟨cs, rfl, hc⟩) (by unfold Fit; exact ⟨es, rfl, hd⟩) h1 h2
  simp only [D.cells] at hq
  cases h1 with
  | agg _ xs _ _ _ =>
  cases h2 with
  | agg _ ys _ _ _ =>
  constructor
  · simp [eqGuard, Sem.run_bind, he.guard, binOp, Op.equal, Op.maxDepth, hq]
  · simp [eqGuard, Sem.run_bind, he.guard, binOp, Op.equal, Op.maxDepth, hq]
theorem r_eqa {T U : TypeId} {x y : Operand} {ks : List LK} [he : EqT P T true ks] {cs es : List D} {c : Bool} (ho : o.op = .binOp .eql T x y U) (hx : oev ρ x = some (.agg cs)) (hy : oev ρ y = some (.agg es)) (hc : lks cs = some ks) (hd : lks es = some ks) (h : deqs cs es = c) : OpSound P o (Eff.val (.bool c)) ρ m :=
  sound_bin ho hx hy fun G w vx vy h1 h2 => ⟨.bool c, by rw [← h]; exact (run_eq_agg hc hd h1 h2).1, .bool c⟩
theorem r_nea {T U : TypeId} {x y : Operand} {ks : List LK} [he : EqT P T true ks] {cs es : List D} {c : Bool} (ho : o.op = .binOp .neq T x y U) (hx : oev ρ x = some (.agg cs)) (hy : oev ρ y = some (.agg es)) (hc : lks cs = some ks) (hd : lks es = some ks) (h : (!deqs cs es) = c) : OpSound P o (Eff.val (.bool c)) ρ m :=
  sound_bin ho hx hy fun G w vx vy h1 h2 => ⟨.bool c, by rw [← h]; exact (run_eq_agg hc hd h1 h2).2, .bool c⟩
end
end Go.Proofs.YtcfefmbbbfdppaaGreatDoor
