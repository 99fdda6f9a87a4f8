/- Maps ranged over: whichever entry comes next. Of any program. No conditions. -/
import Derived.Test.YtnlacdclnhoghaaDMap
namespace Go.Proofs.Ytnlacdclnhoghaa
open Go.RowKit Go.MapKept
set_option linter.unusedVariables false
open Go.ChangeMaps (setBlock)
set_option linter.unusedSimpArgs false
section
variable {P : Program} {o : Oper} {ρ : Slots} {m : Mem}
/-- what is not found, asked for plainly -/
theorem r_lookup1N {T kt et : TypeId} {x ix : Operand} {l : Nat} {ks : List Int} {cs : List D} {k : Int} {dz : D} {z : Value} (hT : P.underlying T = some (.map kt et)) (hk : P.underlying kt = some (.int .i64)) (hz : (P.info? et).bind (·.zero) = some z) (hzr : ∀ G w, Rep G w dz z) (ho : o.op = .lookup T x ix false) (hx : oev ρ x = some (.mp l)) (hix : oev ρ ix = some (.int .i64 k))
    (hm : mget m l = some (.obj (.map ks) cs)) (hi : kix ks k = none) : OpSound P o ⟨dz, [l], [], []⟩ ρ m := by
  refine sound_val fun B G a w m' hs h hrd => ?_
  obtain ⟨_, _, ents, e1, e2, e3, e4, e5⟩ := mapObj hs ((hrd l (by simp)).trans hm)
  have hp := h x (by simp [ho, Op.operands]) _ hx
  have hq := h ix (by simp [ho, Op.operands]) _ hix
  generalize hev : a.eval x = vx at hp
  generalize hevi : a.eval ix = vi at hq
  cases hp
  cases hq
  have hf := findNow_ix k ents.toList ks 0 e2
  rw [hi, Option.bind_none] at hf
  obtain ⟨inf, hinf, hzz⟩ := Option.bind_eq_some_iff.1 hz
  refine ⟨z, ?_, hzr G w⟩
  simp [execOp, ho, hev, hevi, Instr.lookup, Sem.run_bind, run_underlying hT, MapKept.run_getObj_map e1, MapKept.run_checkKey hk (show IsKey (.int .i64) (.int .i64 k) from rfl), MapKept.run_findKey hk hf, zeroValue, typeInfo, hinf, hzz, Result.andThen]
theorem iterObj {B : Base} {G : Gh} {w : World} {m : Mem} (hs : Sim B G m w) {j l since : Nat} {seen : List Nat} (hm : mget m j = some (.obj (.iter since seen) [.mp l])) :
    G.kn j = true ∧ G.nl j = false ∧ w.heap[G.g j]? = some (.mapIter (some (G.g l)) since seen.toArray since) := by
  obtain ⟨k1, k2, k3⟩ := hs.obj j _ _ hm
  have hnl : G.nl j = false := by
    cases h : G.nl j with
    | false => rfl
    | true => exact (k2 h).elim
  obtain ⟨k4, k5, o, k6, vs, ⟨b, rfl, rfl⟩, k7, k8⟩ := k3 hnl
  have := k7.2 0 (.mp l) (.map (some b)) rfl rfl
  cases this
  exact ⟨k1, hnl, k6⟩
theorem born_ix {ents : Array MapEntry} (h : ents.toList.map (·.born) = List.range ents.size) {e : MapEntry} (he : e ∈ ents.toList) : e.born < ents.size ∧ ents[e.born]? = some e := by
  obtain ⟨i, hi⟩ := List.getElem?_of_mem he
  have h1 : (ents.toList.map (·.born))[i]? = some e.born := by rw [List.getElem?_map, hi]; rfl
  have hlt : i < ents.size := by have := (List.getElem?_eq_some_iff.1 hi).1; simpa using this
  rw [h, List.getElem?_range hlt] at h1
  injection h1 with h1
  subst h1
  exact ⟨hlt, by simpa using hi⟩
/-- the entry that was handed out last -/
theorem r_entry {x : Operand} {j l since i : Nat} {seen seen' : List Nat} {ks : List Int} {cs : List D} {k : Int} {d : D} (ho : o.op = .entry x) (hx : oev ρ x = some (.ptr j 0)) (hm : mget m j = some (.obj (.iter since seen') [.mp l])) (hse : seen' = seen ++ [i]) (hml : mget m l = some (.obj (.map ks) cs)) (hnn : ks.length = since) (hk : ks[i]? = some k) (hd : cs[i]? = some d) :
    OpSound P o ⟨.tup [.int .i64 k, d], [j, l], [], []⟩ ρ m := by
  subst hse
  refine sound_val fun B G a w m' hs h hrd => ?_
  obtain ⟨_, _, ents, e1, e2, e3, e4, e5⟩ := mapObj hs ((hrd l (by simp)).trans hml)
  obtain ⟨_, _, f1⟩ := iterObj hs ((hrd j (by simp)).trans hm)
  have hp := h x (by simp [ho, Op.operands]) _ hx
  have he : a.eval x = .pointer (some ⟨G.g j, 0, none⟩) := (show ∀ v, Rep G w (.ptr j 0) v → v = .pointer (some ⟨G.g j, 0, none⟩) from fun v h => by cases h; rfl) _ hp
  have hlt : i < ents.size := by have := (List.getElem?_eq_some_iff.1 hk).1; omega
  obtain ⟨e, hent⟩ : ∃ e, ents[i]? = some e := ⟨_, Array.getElem?_eq_getElem hlt⟩
  have hb : e.born = i := by
    have h1 : (ents.toList.map (·.born))[i]? = some e.born := by simp [hent]
    rw [e3, List.getElem?_range hlt] at h1
    simpa using h1.symm
  have hek : e.key = .int .i64 k := by
    have h1 : (ents.toList.map (·.key))[i]? = some e.key := by simp [hent]
    rw [e2, List.getElem?_map, hk] at h1
    simpa using h1.symm
  have f2 : w.heap[G.g j]? = some (.mapIter (some (G.g l)) since (seen.toArray.push e.born) since) := by rw [f1, hb]; simp
  have hrun := run_entry_at (P := P) w (G.g j) (G.g l) since seen.toArray ents ents.size e (by rw [f2, ← e5, hnn]) e1 (by have := Array.mem_toList_iff.2 (Array.mem_of_getElem? hent); exact this) (by rw [e3]; exact List.nodup_range)
  refine ⟨.tuple #[.int .i64 k, e.val], ?_, ?_⟩
  · simp [execOp, ho, he, hrun, hek, Sem.run_bind, Result.andThen]
  · exact .tup _ _ rfl (Reps.cons (.int .i64 k) (vs := [e.val]) (Reps.cons (e4.2 i d _ hd (by simp [hent])) (vs := []) Reps.nil)).2
end
section
variable {P : Program} {B : Base} {N : Nat} {ρ : Slots} {m : Mem} {nx : Nat} {Q : Post}
/-- THE NEXT ENTRY, whichever it is -/
theorem W_next {id : Nat} {t : Tmp} {x : Operand} {V : TypeId} {pos : String} {af : Array Edge} {os : List Oper} {j l nn : Nat} {seen : List Nat} {ks : List Int} {cs : List D} (hN : allDst N (⟨some t, .next x false, V, pos, af, none⟩ :: os) = true) (hx : oev ρ x = some (.ptr j 0)) (hm : mget m j = some (.obj (.iter nn seen) [.mp l])) (hml : mget m l = some (.obj (.map ks) cs)) (hnn : ks.length = nn)
    (h0 : R P (⟨some t, .next x false, V, pos, af, none⟩ :: os).toArray os (fun _ => Q .normal) ((t, .tup [.bool false]) :: ρ) m nx)
    (h1 : ∀ i, i < nn → i ∉ seen → R P (⟨some t, .next x false, V, pos, af, none⟩ :: os).toArray os (fun _ => Q .normal) ((t, .tup [.bool true, .undef, .undef]) :: ρ) ((j, some (.obj (.iter nn (seen ++ [i])) [.mp l])) :: m) nx) :
    W P B N (.region id (⟨some t, .next x false, V, pos, af, none⟩ :: os).toArray false) Q ρ m nx := by
  intro G a w hs
  refine wp_region_lit ?_
  have hdst : ∀ (k t' : Nat), ((⟨some t, .next x false, V, pos, af, none⟩ :: os : List Oper).toArray[k]?).bind (·.dst) = some t' → t' < N := fun k t' ht => by
    obtain ⟨o, ho, hd⟩ := Option.bind_eq_some_iff.1 ht
    exact allDst_lt hN (List.mem_of_getElem? (by simpa using ho)) hd
  have hNt : allDst N os = true := by unfold allDst at hN ⊢; simp only [List.all_cons, Bool.and_eq_true] at hN; exact hN.2
  have ht : ∀ t', (some t : Option Nat) = some t' → t' < N := fun t' e => allDst_lt hN (List.mem_cons.2 (.inl rfl)) e
  obtain ⟨kn1, nl1, ents, e1, e2, e3, e4, e5⟩ := mapObj hs.sim hml
  obtain ⟨kn2, nl2, f1⟩ := iterObj hs.sim hm
  have hp := hs.oev hx
  have he : a.eval x = .pointer (some ⟨G.g j, 0, none⟩) := (show ∀ v, Rep G w (.ptr j 0) v → v = .pointer (some ⟨G.g j, 0, none⟩) from fun v h => by cases h; rfl) _ hp
  have hn2 : nn = ents.size := by rw [← hnn, e5]
  have hold : ∀ y ∈ ents.toList, y.born < nn := fun y hy => by rw [hn2]; exact (born_ix e3 hy).1
  unfold wpList
  rw [if_pos (by rfl)]
  refine .inl ?_
  unfold Oper.wp
  rcases run_next_at (P := P) w V (G.g j) (G.g l) nn nn seen.toArray ents ents.size f1 e1 hold (Nat.le_refl _) with ⟨_, hr⟩ | ⟨e, hel, w1, hw1, hr⟩
  · have hex : (execOp a.eval ⟨some t, .next x false, V, pos, af, none⟩).run P w = .ok (.value (.tuple #[.bool false])) w := by
      simp [execOp, he, hr, Sem.run_bind, Result.andThen]
    rw [hex, Oper.upon_value]
    obtain ⟨Es, ρ', m', nx', hrun, hq⟩ := h0
    exact run_plain (G0 := G) (w0 := w) (fun G' a' w' hs' _ => ⟨ρ', m', nx', G', hs', hq⟩) hrun hNt hdst G _ w (Ext.refl G w) (hs.put (d := .tup [.bool false]) (Ext.refl G w) hs.sim hs.fresh ht (.tup _ _ rfl (Reps.cons (.bool false) (vs := []) Reps.nil).2))
  · obtain ⟨hel1, hel2⟩ := mem_left hel
    obtain ⟨b1, b2⟩ := born_ix e3 hel1
    have hnew : New w w1 := by rcases hw1 with rfl | rfl
                               · exact new_refl _
                               · exact new_drew (new_refl _)
    have hs1 := hs.sim.grow hnew
    have hx1 := Ext.grow hs.sim.data hnew
    have f2 : w1.heap[G.g j]? = some (.mapIter (some (G.g l)) nn seen.toArray nn) := (hnew.block _ (Array.getElem?_eq_some_iff.1 f1).1).trans f1
    obtain ⟨g1, g2⟩ := hs1.writeO (K' := .iter nn (seen ++ [e.born])) (cs' := [.mp l]) hm nl2 (setBlock_grown w1 (G.g j) (.mapIter (some (G.g l)) nn (seen.toArray.push e.born) ents.size)) (setBlock_at f2)
      ⟨#[.map (some (G.g l))], ⟨G.g l, rfl, by rw [hn2]; simp⟩, Reps.cons (.mp l kn1 nl1) (vs := []) Reps.nil, fun _ _ => trivial⟩
    have hex : (execOp a.eval ⟨some t, .next x false, V, pos, af, none⟩).run P w = .ok (.value (.tuple #[.bool true, e.key, e.val])) (setBlock w1 (G.g j) (.mapIter (some (G.g l)) nn (seen.toArray.push e.born) ents.size)) := by
      simp [execOp, he, hr, Sem.run_bind, Result.andThen]
    rw [hex, Oper.upon_value]
    obtain ⟨Es, ρ', m', nx', hrun, hq⟩ := h1 e.born (by rw [hn2]; exact b1) (by
      have : seen.toArray.contains e.born = false := hel2
      simpa using this)
    exact run_plain (G0 := G) (w0 := w) (fun G' a' w' hs' _ => ⟨ρ', m', nx', G', hs', hq⟩) hrun hNt hdst G _ _ (hx1.trans g1) (hs.put (d := .tup [.bool true, .undef, .undef]) (hx1.trans g1) g2 hs.fresh ht (.tup _ _ rfl (Reps.cons (.bool true) (vs := [_, _]) (Reps.cons (.undef _) (vs := [_]) (Reps.cons (.undef _) (vs := []) Reps.nil))).2))
end
section
variable {P : Program} {ρ : Slots} {m : Mem} {nx : Nat} {ops : Array Oper} {os : List Oper} {K : List Eff → Slots → Mem → Nat → Prop}
theorem k_lookup1N {t : Tmp} {T kt et : TypeId} {x ix : Operand} {l : Nat} {ks : List Int} {cs : List D} {k : Int} {dz : D} {z : Value} {V : TypeId} {pos : String} {af : Array Edge} {gd : Option (Nat × Bool)} (hg : gok ops ρ ⟨some t, .lookup T x ix false, V, pos, af, gd⟩ = some true)
    (hT : P.underlying T = some (.map kt et)) (hk : P.underlying kt = some (.int .i64)) (hz : (P.info? et).bind (·.zero) = some z) (hzr : ∀ G w, Rep G w dz z) (hx : oev ρ x = some (.mp l)) (hix : oev ρ ix = some (.int .i64 k)) (hm : mget m l = some (.obj (.map ks) cs)) (hi : kix ks k = none)
    (hh : R P ops os (fun Es => K (⟨dz, [l], [], []⟩ :: Es)) ((t, dz) :: ρ) m nx) :
    R P ops (⟨some t, .lookup T x ix false, V, pos, af, gd⟩ :: os) K ρ m nx := R_cons hg (r_lookup1N hT hk hz hzr rfl hx hix hm hi) rfl hh
theorem k_entry {t : Tmp} {x : Operand} {j l since i : Nat} {seen seen' : List Nat} {ks : List Int} {cs : List D} {k : Int} {d : D} {V : TypeId} {pos : String} {af : Array Edge} {gd : Option (Nat × Bool)} (hg : gok ops ρ ⟨some t, .entry x, V, pos, af, gd⟩ = some true)
    (hx : oev ρ x = some (.ptr j 0)) (hm : mget m j = some (.obj (.iter since seen') [.mp l])) (hse : seen' = seen ++ [i]) (hml : mget m l = some (.obj (.map ks) cs)) (hnn : ks.length = since) (hk : ks[i]? = some k) (hd : cs[i]? = some d)
    (hh : R P ops os (fun Es => K (⟨.tup [.int .i64 k, d], [j, l], [], []⟩ :: Es)) ((t, .tup [.int .i64 k, d]) :: ρ) m nx) :
    R P ops (⟨some t, .entry x, V, pos, af, gd⟩ :: os) K ρ m nx := R_cons hg (r_entry rfl hx hm hse hml hnn hk hd) rfl hh
end
end Go.Proofs.Ytnlacdclnhoghaa
