/- guard: what lives; plain. No conditions. -/
import Derived.Test.YtcfefmbbbfdppaaGreatDoorSBytes
import Derived.Test.YtcfefmbbbfdppaaGreatDoorSGu7
import Derived.Test.YtcfefmbbbfdppaaGreatDoorSUpl
import Derived.Test.YtcfefmbbbfdppaaGreatDoorSDInst
import Derived.Test.YtcfefmbbbfdppaaGreatDoorSDK2
import Derived.Test.YtcfefmbbbfdppaaGreatDoorSGu4
namespace Go.Proofs.YtcfefmbbbfdppaaGreatDoor
open Go.RowKit Go.IntWalk Go.Lib
set_option linter.unusedVariables false
set_option maxRecDepth 100000
def gofG (a b : Int) : GT := ⟨50 + (a.fdiv 1 % 100).toNat, 50 + (a.fdiv 2 % 100).toNat, 50 + (a.fdiv 4 % 100).toNat, 20 + (b.fdiv 1 % 60).toNat, 20 + (b.fdiv 2 % 60).toNat, 20 + (b.fdiv 4 % 60).toNat, (a % 50).toNat, [], []⟩
theorem gof_start (a b : Int) : Start (gofG a b) := by
  refine ⟨rfl, rfl, by show (a % 50).toNat < 50; omega, fun x hx => ?_⟩
  simp only [gofG, List.mem_cons, List.not_mem_nil, or_false] at hx
  rcases hx with rfl | rfl | rfl | rfl | rfl | rfl <;> omega
def GT.cells0 (g : GT) : List D := [.int .i64 g.l0, .int .i64 g.l1, .int .i64 g.l2, .int .i64 g.b0, .int .i64 g.b1, .int .i64 g.b2, .int .i64 g.now, .slice .nil 0 [], .slice .nil 0 []]
theorem GT.ups0 (g : GT) (h : Start g) : Up (.agg g.cells0) (.agg g.cells) := by
  refine .agg_ ?_
  unfold GT.cells0 GT.cells gC qD
  rw [h.past, h.queue]
  exact .cons (.refl _) (.cons (.refl _) (.cons (.refl _) (.cons (.refl _) (.cons (.refl _) (.cons (.refl _) (.cons (.refl _) (.cons (.nil _) (.cons (.nil _) .nil))))))))
set_option maxHeartbeats 16000000 in
theorem gateOf_ok (k a b : Int) (s : ByteArray) : Pur Tryz.prog 15 [.agg [.int .i64 k, .int .i64 a, .int .i64 b, .str s]] (.agg (gofG a b).cells0) := by
  have pn := p_picked a 50 ((a % 50).toNat : Int) (by decide) (by decide) (by omega)
  have p0 := p_picked (a.fdiv 1) 100 ((a.fdiv 1 % 100).toNat : Int) (by decide) (by decide) (by omega)
  have p1 := p_picked (a.fdiv 2) 100 ((a.fdiv 2 % 100).toNat : Int) (by decide) (by decide) (by omega)
  have p2 := p_picked (a.fdiv 4) 100 ((a.fdiv 4 % 100).toNat : Int) (by decide) (by decide) (by omega)
  have q0 := p_picked (b.fdiv 1) 60 ((b.fdiv 1 % 60).toNat : Int) (by decide) (by decide) (by omega)
  have q1 := p_picked (b.fdiv 2) 60 ((b.fdiv 2 % 60).toNat : Int) (by decide) (by decide) (by omega)
  have q2 := p_picked (b.fdiv 4) 60 ((b.fdiv 4 % 60).toNat : Int) (by decide) (by decide) (by omega)
  have hA : ∀ x : Nat, x < 100 → IntKind.i64.wrap (50 + (x : Int)) = ((50 + x : Nat) : Int) := fun x hx => by rw [i64_in _ (by omega)]; omega
  have hB : ∀ x : Nat, x < 100 → IntKind.i64.wrap (20 + (x : Int)) = ((20 + x : Nat) : Int) := fun x hx => by rw [i64_in _ (by omega)]; omega
  have a0 := hA (a.fdiv 1 % 100).toNat (by omega)
  have a1 := hA (a.fdiv 2 % 100).toNat (by omega)
  have a2 := hA (a.fdiv 4 % 100).toNat (by omega)
  have c0 := hB (b.fdiv 1 % 60).toNat (by omega)
  have c1 := hB (b.fdiv 2 % 60).toNat (by omega)
  have c2 := hB (b.fdiv 4 % 60).toNat (by omega)
  have s0 : ∀ x : Int, x.fdiv (2 ^ (min (0 : Int).toNat IntKind.i64.bits)) = x.fdiv 1 := fun _ => rfl
  have s1 : ∀ x : Int, x.fdiv (2 ^ (min (1 : Int).toNat IntKind.i64.bits)) = x.fdiv 2 := fun _ => rfl
  have s2 : ∀ x : Int, x.fdiv (2 ^ (min (2 : Int).toNat IntKind.i64.bits)) = x.fdiv 4 := fun _ => rfl
  unfold gofG GT.cells0
  dsimp only
  generalize (a.fdiv 1 % 100).toNat = x0 at *
  generalize (a.fdiv 2 % 100).toNat = x1 at *
  generalize (a.fdiv 4 % 100).toNat = x2 at *
  generalize (b.fdiv 1 % 60).toNat = y0 at *
  generalize (b.fdiv 2 % 60).toNat = y1 at *
  generalize (b.fdiv 4 % 60).toNat = y2 at *
  generalize (a % 50).toNat = n0 at *
  refine pur_intro Tryz.func15 rfl Tryz.ntmps15 rfl (by first | rfl | assumption | exact bs_cl _) fun B => ?_
  repeat (first | refine zc ?_ | (refine k_shr rfl rfl rfl ?_ (s0 _) ?_; (decide)) | (refine k_shr rfl rfl rfl ?_ (s1 _) ?_; (decide)) | (refine k_shr rfl rfl rfl ?_ (s2 _) ?_; (decide)) | refine k_add rfl rfl rfl a0 ?_ | refine k_add rfl rfl rfl a1 ?_ | refine k_add rfl rfl rfl a2 ?_ | refine k_add rfl rfl rfl c0 ?_ | refine k_add rfl rfl rfl c1 ?_ | refine k_add rfl rfl rfl c2 ?_ | refine zA ?_ | refine k_call rfl pn rfl rfl rfl rfl ?_ | refine k_call rfl p0 rfl rfl rfl rfl ?_ | refine k_call rfl p1 rfl rfl rfl rfl ?_ | refine k_call rfl p2 rfl rfl rfl rfl ?_ | refine k_call rfl q0 rfl rfl rfl rfl ?_ | refine k_call rfl q1 rfl rfl rfl rfl ?_ | refine k_call rfl q2 rfl rfl rfl rfl ?_ | refine W_unroll (WL_round ?_) | refine WL_round ?_ | refine zB ?_)
  (first | with_reducible refine q_endr ?_); refine rets1 Tryz.results15 (by exact zv) ?_
  rfl
end Go.Proofs.YtcfefmbbbfdppaaGreatDoor
namespace Go.Proofs.YtcfefmbbbfdppaaGreatDoor
open Go.RowKit Go.Lib Go.IntWalk
set_option linter.unusedVariables false
set_option maxRecDepth 100000
def w32 (a b : UInt8) : List UInt8 := a :: (List.replicate 30 0 ++ [b])
theorem mToken_ok : Pur Tryz.prog 43 [.int .i64 0] (.agg (bs (w32 116 0))) := by
  refine pur_intro Tryz.func43 rfl Tryz.ntmps43 rfl (by first | rfl | assumption | exact bs_cl _) fun B => ?_
  repeat (first | refine zC ?_ | refine zA ?_ | refine k_conv rfl rfl rfl ?_ | refine zB ?_)
  (first | with_reducible refine q_endr ?_); refine rets1 Tryz.results43 (by exact zv) ?_
  rfl
theorem mEmit_ok : Pur Tryz.prog 45 [.int .i64 0] (.agg (bs (w32 176 0))) := by
  refine pur_intro Tryz.func45 rfl Tryz.ntmps45 rfl (by first | rfl | assumption | exact bs_cl _) fun B => ?_
  repeat (first | refine zC ?_ | refine zA ?_ | refine k_conv rfl rfl rfl ?_ | refine zB ?_)
  (first | with_reducible refine q_endr ?_); refine rets1 Tryz.results45 (by exact zv) ?_
  rfl
theorem mWho_ok (a : Int) (i : Nat) (h : a % 6 = i) : Pur Tryz.prog 44 [.int .i64 a] (.agg (bs (w32 1 (UInt8.ofNat i)))) := by
  have hi : i < 6 := by omega
  have pk := p_picked a 6 i (by decide) (by decide) h
  obtain rfl | rfl | rfl | rfl | rfl | rfl : i = 0 ∨ i = 1 ∨ i = 2 ∨ i = 3 ∨ i = 4 ∨ i = 5 := by omega
  all_goals
    refine pur_intro Tryz.func44 rfl Tryz.ntmps44 rfl (by first | rfl | assumption | exact bs_cl _) fun B => ?_
    repeat (first | refine zC ?_ | refine zA ?_ | refine k_call rfl pk rfl rfl rfl rfl ?_ | refine k_conv rfl rfl rfl ?_ | refine zB ?_)
    (first | with_reducible refine q_endr ?_); refine rets1 Tryz.results44 (by exact zv) ?_
    rfl
def trX (am : Nat) (tk tp : List UInt8) : List D := ldC 1 am 0 tk 0 tp [.int .i64 1, .int .i64 0, .str ⟨#[]⟩, .slice .frozen 0 [], .int .i64 0, .slice .nil 0 []]
def trO (am : Nat) (tk tp : List UInt8) : List UInt8 := trB false am 0 tk 0 tp 1 []
theorem g_ntr (b : Bool) (w : World) : (Go.nilAhead (Tryz.prog.types.size + Made.depth) 180 (.agg #[.bool b]) "bascule/load.get").run Tryz.prog w = .ok (some false) w := by kernel_rfl
theorem trO_len (am : Nat) (tk tp : List UInt8) (h1 : tk.length = 32) (h2 : tp.length = 32) : (trO am tk tp).length = 133 := by
  unfold trO trB; simp [b32_len, h1, h2, toB_2]
theorem trO_enc (am : Nat) (tk tp : List UInt8) (h1 : tk.length = 32) (h2 : tp.length = 32) (ha : am < M256) : Pur Tryz.prog 42 [.agg (trL false am 0 tk 0 tp 1 []).cells] (.tup [.slice .frozen 133 (bs (trO am tk tp)), .int .i64 0]) :=
  Encode_tr false am 0 tk 0 tp 1 [] h1 h2 ha (by decide) (by decide) (by decide) (Nat.zero_le _) (Nat.zero_le _) 133 (trO_len am tk tp h1 h2)
set_option maxHeartbeats 4000000 in
theorem trO_dec (am : Nat) (tk tp : List UInt8) (h1 : tk.length = 32) (h2 : tp.length = 32) (ha : am < M256) : Pur Tryz.prog 108 [.slice .frozen 133 (bs (trO am tk tp))] (.tup [.agg (trX am tk tp), .int .i64 0]) := by
  have hC := Check_tr false am 0 tk 0 tp 1 [] h1 h2 ha (by decide) (by decide) (by decide) 0 rfl
  have u2 : Up (.agg (trX am tk tp)) (.agg (trL false am 0 tk 0 tp 1 []).cells) := .agg_ (ldC_ups (.cons (.refl _) (.cons (.refl _) (.cons (.refl _) (.cons (.refl _) (.cons (.refl _) (.cons (.nil _) .nil)))))))
  have hC2 := pur_upl hC (.cons u2 .nil)
  obtain ⟨r, hr⟩ : ∃ r, b32 am ++ (tk ++ (toB 2 0 ++ (tp ++ (toB 2 1 ++ (b32 0 ++ []))))) = r := ⟨_, rfl⟩
  have eB : trO am tk tp = 1 :: r := by unfold trO trB; rw [hr]; rfl
  have hrl : r.length = 132 := by have := trO_len am tk tp h1 h2; rw [eB, List.length_cons] at this; omega
  have hg := tr_get false (b32 am) tk 0 0 tp 0 1 (b32 0) [] r (b32_len am) h1 h2 (b32_len 0) (by rw [← hr]; rfl) 132 0 hrl rfl (by omega) am 0 0 1 (nm_b32 am ha) (nm_b32 0 (by decide)) rfl rfl
  rw [eB]
  have lx : ∀ k : Int, (ldC k am 0 tk 0 tp [.int .i64 1, .int .i64 0, .str ⟨#[]⟩, .slice .frozen 0 [], .int .i64 0, .slice .nil 0 []]).length = 80 := fun k => ldC_len (k := k) (am := am) (fe := 0) (ho := 0) h1 h2 _ rfl
  have ly : ∀ k : Int, ∀ cs : List D, cs.length = 80 → splice 0 (ldC k am 0 tk 0 tp [.int .i64 1, .int .i64 0, .str ⟨#[]⟩, .slice .frozen 0 [], .int .i64 0, .slice .nil 0 []]) cs = some (ldC k am 0 tk 0 tp [.int .i64 1, .int .i64 0, .str ⟨#[]⟩, .slice .frozen 0 [], .int .i64 0, .slice .nil 0 []]) := fun k => ldC_lay (k := k) (am := am) (fe := 0) (ho := 0) h1 h2 _ rfl
  have lz : ∀ k : Int, ∀ ze, cut ⟨true, 80, ze⟩ 0 (ldC k am 0 tk 0 tp [.int .i64 1, .int .i64 0, .str ⟨#[]⟩, .slice .frozen 0 [], .int .i64 0, .slice .nil 0 []]) = some (.agg (ldC k am 0 tk 0 tp [.int .i64 1, .int .i64 0, .str ⟨#[]⟩, .slice .frozen 0 [], .int .i64 0, .slice .nil 0 []])) := fun k => ldC_all (k := k) (am := am) (fe := 0) (ho := 0) h1 h2 _ rfl
  exact Decode_ok 1 r 133 132 hrl rfl (by omega) kindOf_1 _ (lx 0) (ly 0) (ld_cl _ _ _ _ _ _ _ _ _ _ _ _ rfl rfl) 0 hg (m_tr_get false) (g_ntr false) (one_rep false) rfl rfl _ rfl (lz 1) (ld_fz _ _ _ _ _ _ _ _ _ _ _ _ rfl rfl) (ld_cl _ _ _ _ _ _ _ _ _ _ _ _ rfl rfl) (lx 1) (ly 1) 0 hC2 rfl rfl
def msgB (i : Nat) (r : RawT) : BodyT := ⟨1 + (r.b % 9).toNat, 0, (r.k % 3).toNat, w32 176 0, i, 1, trO (r.a % 70).toNat (w32 116 0) (w32 1 (UInt8.ofNat (r.b % 6).toNat))⟩
def msgA (r : RawT) : Nat := (r.a % 70).toNat
theorem msg_ok (i : Nat) (hi : i < 256) (r : RawT) : (msgB i r).ok :=
  ⟨by show 1 + (r.b % 9).toNat ≤ _; omega, Nat.zero_le _, by show (r.k % 3).toNat ≤ _; omega, rfl, by show i ≤ _; omega, by show 1 ≤ _; decide, by show (trO _ _ _).length ≤ _; rw [trO_len _ _ _ rfl rfl]; decide⟩
theorem msg_wor (i : Nat) (r : RawT) : Wor (msgB i r) (msgA r) := by
  have h70 : (r.a % 70).toNat < 70 := by omega
  refine ⟨by unfold msgA; omega, trX (msgA r) _ _, ldC_len (k := 1) (am := msgA r) (fe := 0) (ho := 0) (show (w32 116 0).length = 32 from rfl) (show (w32 1 (UInt8.ofNat (r.b % 6).toNat)).length = 32 from rfl) _ rfl, ld_cl _ _ _ _ _ _ _ _ _ _ _ _ rfl rfl, ldC_k _ _ _ _ _ _ _, ldC_am _ _ _ _ _ _ _, ?_⟩
  have := trO_dec (msgA r) (w32 116 0) (w32 1 (UInt8.ofNat (r.b % 6).toNat)) rfl rfl (by unfold msgA; exact Nat.lt_of_lt_of_le h70 (by decide))
  show Pur _ _ [.slice .frozen (trO _ _ _).length (bs (trO _ _ _))] _
  rw [trO_len _ _ _ rfl rfl]
  exact this
theorem gmod (a : Int) (m : Nat) (h : 0 < m) : ∃ n : Nat, a % m = n ∧ n < m := ⟨(a % m).toNat, by have := Int.emod_nonneg a (show (m : Int) ≠ 0 by omega); omega, by have := Int.emod_nonneg a (show (m : Int) ≠ 0 by omega); have := Int.emod_lt_of_pos a (show (0 : Int) < m by omega); omega⟩
set_option maxHeartbeats 8000000 in
theorem message_ok (i : Nat) (hi : i < 256) (k a b : Int) (s : ByteArray) : Pur Tryz.prog 18 [.int .i64 (i : Int), .agg [.int .i64 k, .int .i64 a, .int .i64 b, .str s]] (.agg (msgB i ⟨k, a, b, s⟩).cells) := by
  obtain ⟨am, ea, ha⟩ := gmod a 70 (by decide)
  obtain ⟨bn, eb, hb⟩ := gmod b 9 (by decide)
  obtain ⟨wn, ew, hw⟩ := gmod b 6 (by decide)
  obtain ⟨cn, ec, hc⟩ := gmod k 3 (by decide)
  have pa := p_picked a 70 am (by decide) (by decide) ea
  have pb := p_picked b 9 bn (by decide) (by decide) eb
  have pc := p_picked k 3 cn (by decide) (by decide) ec
  have hwh := mWho_ok b wn ew
  have htk := mToken_ok
  have hem := mEmit_ok
  have hM : msgB i ⟨k, a, b, s⟩ = ⟨1 + bn, 0, cn, w32 176 0, i, 1, trO am (w32 116 0) (w32 1 (UInt8.ofNat wn))⟩ := by
    unfold msgB
    dsimp only
    rw [show (a % 70).toNat = am by omega, show (b % 9).toNat = bn by omega, show (b % 6).toNat = wn by omega, show (k % 3).toNat = cn by omega]
  rw [hM]
  have hE := trO_enc am (w32 116 0) (w32 1 (UInt8.ofNat wn)) rfl rfl (Nat.lt_of_lt_of_le ha (by decide))
  have hcw : IntKind.u64.wrap (am : Int) = (am : Int) := by rw [IntKind.wrap_u64]; omega
  have u1 : Up (.agg (ldC 1 am 0 (w32 116 0) 0 (w32 1 (UInt8.ofNat wn)) [.int .i64 1, .int .i64 0, .str ⟨#[]⟩, .slice .nil 0 [], .int .i64 0, .slice .nil 0 []])) (.agg (trL false am 0 (w32 116 0) 0 (w32 1 (UInt8.ofNat wn)) 1 []).cells) := .agg_ (ldC_ups (.cons (.refl _) (.cons (.refl _) (.cons (.refl _) (.cons (.nil _) (.cons (.refl _) (.cons (.nil _) .nil)))))))
  have hE2 := pur_upl hE (.cons u1 .nil)
  have ol : (trO am (w32 116 0) (w32 1 (UInt8.ofNat wn))).length = 133 := trO_len _ _ _ rfl rfl
  unfold BodyT.cells
  dsimp only
  rw [ol]
  generalize bs (trO am (w32 116 0) (w32 1 (UInt8.ofNat wn))) = zo at *
  have hud : ud am = [.int .u64 (am : Int), .int .u64 0, .int .u64 0, .int .u64 0] := ud_small am (by omega)
  unfold ldC at hE2
  rw [hud] at hE2
  refine pur_intro Tryz.func18 rfl Tryz.ntmps18 rfl (by first | rfl | assumption | exact bs_cl _) fun B => ?_
  repeat (first | refine zC ?_ | refine zA ?_ | refine k_call rfl pa rfl rfl rfl rfl ?_ | refine k_call rfl pb rfl rfl rfl rfl ?_ | refine k_call rfl pc rfl rfl rfl rfl ?_ | refine k_call rfl hwh rfl rfl rfl rfl ?_ | refine k_call rfl htk rfl rfl rfl rfl ?_ | refine k_call rfl hem rfl rfl rfl rfl ?_ | refine k_conv rfl rfl hcw ?_ | refine k_call rfl hE2 rfl rfl rfl rfl ?_ | refine zB ?_)
  (first | with_reducible refine q_endr ?_); refine rets1 Tryz.results18 (by exact zv) ?_
  rfl
end Go.Proofs.YtcfefmbbbfdppaaGreatDoor
namespace Go.Proofs.YtcfefmbbbfdppaaGreatDoor
open Go.RowKit Go.Lib Go.IntWalk
set_option linter.unusedVariables false
set_option maxRecDepth 100000
theorem rel_fst : ∀ (ids : List Nat) (s : List BodyT × List BodyT), (rel s ids).1 = s.1.filter (fun b => decide (b.id ∉ ids))
  | [], s => by
    show s.1 = _
    exact (List.filter_eq_self.2 fun b _ => by simp).symm
  | i :: ids, s => by
    show (rel (rel1 s i) ids).1 = _
    rw [rel_fst ids (rel1 s i)]
    show (s.1.filter _).filter _ = _
    rw [List.filter_filter]
    congr 1
    funext b
    by_cases h : b.id = i <;> simp [h]
theorem rel_mem : ∀ (ids : List Nat) (s : List BodyT × List BodyT) (b : BodyT), b ∈ (rel s ids).1 ∨ b ∈ (rel s ids).2 → b ∈ s.1 ∨ b ∈ s.2
  | [], s, b, h => h
  | i :: ids, s, b, h => by
    rcases rel_mem ids (rel1 s i) b h with h | h
    · exact .inl (List.mem_filter.1 h).1
    · rcases List.mem_append.1 h with h | h
      · exact .inr h
      · exact .inl (List.mem_filter.1 h).1
structure LInv (g0 : GT) (j n : Nat) (x : GuT) : Prop where
  ok : x.ok
  f : x.f = g0
  si : x.si = []
  la : x.la.length ≤ 192 * j
  now : x.g.now ≤ 50 + 9 * j
  qid : ∀ q ∈ x.g.past ++ x.g.queue, q.id % 256 < j
  bid : ∀ b ∈ x.dn ++ x.hd, b.u < j
  perm : (x.hd.map BodyT.id).Perm (x.g.queue.map QT.id)
  cnt : x.hd.length + x.dn.length = n
  n : n ≤ j
theorem nodup_queue {g : GT} (hg : g.ok) : (g.queue.map QT.id).Nodup := by
  have := hg.ids
  rw [List.map_append] at this
  exact (List.nodup_append.1 this).2.1
theorem LInv.rinv {g0 : GT} {j n : Nat} {x : GuT} (h : LInv g0 j n x) (k : Nat) : RInv (x.hd, x.dn) (tick x.g k).2 (x.hd.length + x.dn.length) := by
  have hp := tick_perm x.g k
  have hn : ((tick x.g k).2 ++ (tick x.g k).1.queue.map QT.id).Nodup := hp.nodup_iff.2 (nodup_queue h.ok.g)
  refine ⟨h.perm.nodup_iff.2 (nodup_queue h.ok.g), fun id hid => ?_, (List.nodup_append.1 hn).1, h.ok.hd.ok, h.ok.dn.ok, rfl⟩
  have : id ∈ x.hd.map BodyT.id := h.perm.mem_iff.2 (hp.mem_iff.1 (List.mem_append.2 (.inl hid)))
  obtain ⟨b, hb, e⟩ := List.mem_map.1 this
  exact ⟨b, hb, e⟩
theorem LInv.gone {g0 : GT} {j n : Nat} {x : GuT} (h : LInv g0 j n x) (k : Nat) (hk : x.g.now + k ≤ 1099511627776) (hj : j ≤ 30) : (x.gone k).ok ∧ ((x.gone k).hd.map BodyT.id).Perm ((x.gone k).g.queue.map QT.id) ∧ (x.gone k).hd.length + (x.gone k).dn.length = n ∧ (∀ b ∈ (x.gone k).dn ++ (x.gone k).hd, b.u < j) ∧ ∀ q ∈ (x.gone k).g.past ++ (x.gone k).g.queue, q.id % 256 < j := by
  have hr := h.rinv k
  have he := hr.at_ _ (Nat.le_refl _)
  rw [List.take_length, List.drop_length] at he
  have hlen := he.len
  have hc := h.cnt
  have hn := h.n
  refine ⟨⟨h.ok.f, tick_ok x.g h.ok.g k hk, h.ok.log, ⟨he.h, ?_⟩, ⟨he.d, ?_⟩⟩, ?_, ?_, ?_, ?_⟩
  · show (rel (x.hd, x.dn) (tick x.g k).2).1.length ≤ 200; omega
  · show (rel (x.hd, x.dn) (tick x.g k).2).2.length ≤ 200; omega
  · show ((rel (x.hd, x.dn) (tick x.g k).2).1.map BodyT.id).Perm ((tick x.g k).1.queue.map QT.id)
    rw [rel_fst]
    have e1 : (x.hd.filter (fun b => decide (b.id ∉ (tick x.g k).2))).map BodyT.id = (x.hd.map BodyT.id).filter (fun i => decide (i ∉ (tick x.g k).2)) := by rw [List.filter_map]; rfl
    have hp := tick_perm x.g k
    have hnd : ((tick x.g k).2 ++ (tick x.g k).1.queue.map QT.id).Nodup := hp.nodup_iff.2 (nodup_queue h.ok.g)
    show ((x.hd.filter _).map BodyT.id).Perm _
    rw [e1]
    refine (h.perm.filter _).trans ((hp.symm.filter _).trans ?_)
    rw [List.filter_append, List.filter_eq_nil_iff.2 (fun i hi => by simpa using hi), List.filter_eq_self.2 (fun i hi => by
      refine decide_eq_true fun hm => ?_
      exact (List.nodup_append.1 hnd).2.2 i hm i hi rfl)]
    exact List.Perm.refl _
  · show (rel (x.hd, x.dn) (tick x.g k).2).1.length + (rel (x.hd, x.dn) (tick x.g k).2).2.length = n
    omega
  · intro b hb
    refine h.bid b ?_
    rcases rel_mem (tick x.g k).2 (x.hd, x.dn) b ((List.mem_append.1 hb).symm) with h | h
    · exact List.mem_append.2 (.inr h)
    · exact List.mem_append.2 (.inl h)
  · intro q hq
    rcases List.mem_append.1 hq with hq | hq
    · obtain ⟨y, hy, e, _⟩ := tick_past x.g k q hq
      rw [← e]; exact h.qid y hy
    · exact h.qid q (List.mem_append.2 (.inr (tick_queue x.g k q hq)))
theorem LInv.wait {g0 : GT} {j n : Nat} {x : GuT} (h : LInv g0 j n x) (k : Nat) (hk : k ≤ 9) (hj : j ≤ 20) : LInv g0 (j + 1) n (x.wait k) := by
  have hw := h.now
  obtain ⟨h1, h2, h3, h4, h5⟩ := h.gone k (by omega) (by omega)
  have hl := h.la
  have hrl := rec8_len (hrs k)
  have hrl3 : (hrs k).length = 3 := rfl
  have hla : (x.wait k).la.length = x.la.length + (rec8 (hrs k)).length := List.length_append
  refine ⟨⟨h1.f, h1.g, ?_, h1.hd, h1.dn⟩, h.f, rfl, ?_, ?_, fun q hq => Nat.lt_succ_of_lt (h5 q hq), fun b hb => Nat.lt_succ_of_lt (h4 b hb), h2, h3, by have := h.n; omega⟩
  · show (x.wait k).la.length + 0 ≤ 9000; omega
  · omega
  · show (tick x.g k).1.now ≤ _
    rw [(tick_same x.g k).now]; omega
theorem msg_id (j : Nat) (r : RawT) : (msgB j r).id = (r.k % 3).toNat * 256 + j := rfl
theorem msg_outlen (r : RawT) (i : Nat) (hi : i < 256) : (msgB i r).out.length = 188 := by
  rw [(msgB i r).out_len (msg_ok i hi r)]
  show 55 + (trO _ _ _).length = _
  rw [trO_len _ _ _ rfl rfl]
section
variable {g0 : GT} {j n : Nat} {x : GuT} (h : LInv g0 j n x) (r : RawT) (hj : j ≤ 20)
include h hj
theorem LInv.new : (∀ q ∈ x.g.past ++ x.g.queue, q.id ≠ (msgB j r).id) ∧ knowsB (msgB j r).id (x.dn ++ x.hd) = false ∧ x.g.queue.length < 40 ∧ x.hd.length < 200 ∧ x.dn.length < 200 := by
  have hq : x.g.queue.length = x.hd.length := by have := h.perm.length_eq; simpa using this.symm
  have hc := h.cnt
  have hn := h.n
  refine ⟨fun q hq e => ?_, ?_, by omega, by omega, by omega⟩
  · have := h.qid q hq
    rw [e, msg_id] at this
    omega
  · unfold knowsB
    rw [List.any_eq_false]
    intro b hb
    have hb2 := h.bid b hb
    rw [msg_id]
    unfold BodyT.id
    simp only [decide_eq_true_eq]
    omega
theorem LInv.meet : LInv g0 (j + 1) (n + 1) (x.meet (msgB j r) (msgA r)) := by
  obtain ⟨a1, a2, a3, a4, a5⟩ := h.new r hj
  have hm := msg_ok j (by omega) r
  have hc3 : (msgB j r).c < 3 := by show (r.k % 3).toNat < 3; omega
  have hok := gtake_ok x h.ok (msgB j r) hm hc3 (by show j < 256; omega) (msgA r) (msg_wor j r) a1 a3 a4 a5
  have hol := msg_outlen r j (by omega)
  have hla := h.la
  have hrl := rec8_len (1 :: (msgB j r).out)
  have hc := h.cnt
  have hsi := h.si
  have hlog : (x.take (msgB j r) (msgA r)).la = x.la := by unfold GuT.take; split <;> rfl
  have hl2 : (x.meet (msgB j r) (msgA r)).la.length = x.la.length + (rec8 (1 :: (msgB j r).out)).length := by
    show ((x.take (msgB j r) (msgA r)).la ++ _).length = _
    rw [hlog, List.length_append]
  rw [List.length_cons, hol] at hrl
  have hidm : (msgB j r).id % 256 = j := by rw [msg_id]; omega
  refine ⟨⟨hok.f, hok.g, ?_, hok.hd, hok.dn⟩, ?_, rfl, ?_, ?_, ?_, ?_, ?_, ?_, by have := h.n; omega⟩
  · show (x.meet (msgB j r) (msgA r)).la.length + 0 ≤ 9000; omega
  · show (x.take (msgB j r) (msgA r)).f = g0
    rw [← h.f]; unfold GuT.take; split <;> rfl
  · omega
  · have : (x.take (msgB j r) (msgA r)).g.now = x.g.now := by unfold GuT.take; split <;> rfl
    show (x.take (msgB j r) (msgA r)).g.now ≤ _
    have := h.now; omega
  · intro q hq
    have hq : q ∈ (x.take (msgB j r) (msgA r)).g.past ++ (x.take (msgB j r) (msgA r)).g.queue := hq
    have hor : q ∈ x.g.past ++ x.g.queue ∨ q = qOf x (msgB j r) (msgA r) := by
      unfold GuT.take at hq
      split at hq
      · rcases List.mem_append.1 hq with hq | hq
        · rcases List.mem_append.1 hq with hq | hq
          · exact .inl (List.mem_append.2 (.inl hq))
          · exact .inr (List.mem_singleton.1 hq)
        · exact .inl (List.mem_append.2 (.inr hq))
      · rcases List.mem_append.1 hq with hq | hq
        · exact .inl (List.mem_append.2 (.inl hq))
        · rcases List.mem_append.1 hq with hq | hq
          · exact .inl (List.mem_append.2 (.inr hq))
          · exact .inr (List.mem_singleton.1 hq)
    rcases hor with hq | rfl
    · exact Nat.lt_succ_of_lt (h.qid q hq)
    · show (msgB j r).id % 256 < j + 1; omega
  · intro b hb
    have hb : b ∈ (x.take (msgB j r) (msgA r)).dn ++ (x.take (msgB j r) (msgA r)).hd := hb
    have hor : b ∈ x.dn ++ x.hd ∨ b = msgB j r := by
      unfold GuT.take at hb
      split at hb
      · rcases List.mem_append.1 hb with hb | hb
        · rcases List.mem_append.1 hb with hb | hb
          · exact .inl (List.mem_append.2 (.inl hb))
          · exact .inr (List.mem_singleton.1 hb)
        · exact .inl (List.mem_append.2 (.inr hb))
      · rcases List.mem_append.1 hb with hb | hb
        · exact .inl (List.mem_append.2 (.inl hb))
        · rcases List.mem_append.1 hb with hb | hb
          · exact .inl (List.mem_append.2 (.inr hb))
          · exact .inr (List.mem_singleton.1 hb)
    rcases hor with hb | rfl
    · exact Nat.lt_succ_of_lt (h.bid b hb)
    · show j < j + 1; omega
  · show ((x.take (msgB j r) (msgA r)).hd.map BodyT.id).Perm ((x.take (msgB j r) (msgA r)).g.queue.map QT.id)
    unfold GuT.take
    split
    · exact h.perm
    · show ((x.hd ++ [msgB j r]).map BodyT.id).Perm ((x.g.queue ++ [qOf x (msgB j r) (msgA r)]).map QT.id)
      rw [List.map_append, List.map_append]
      exact h.perm.append_right _
  · show (x.take (msgB j r) (msgA r)).hd.length + (x.take (msgB j r) (msgA r)).dn.length = n + 1
    unfold GuT.take
    split
    · show x.hd.length + (x.dn ++ [msgB j r]).length = n + 1
      rw [List.length_append]; simp; omega
    · show (x.hd ++ [msgB j r]).length + x.dn.length = n + 1
      rw [List.length_append]; simp; omega
omit h hj in
theorem LInv.knows : knowsB (msgB j r).id ((x.meet (msgB j r) (msgA r)).dn ++ (x.meet (msgB j r) (msgA r)).hd) = true := by
  have hm : msgB j r ∈ (x.take (msgB j r) (msgA r)).dn ++ (x.take (msgB j r) (msgA r)).hd := by
    unfold GuT.take
    split
    · exact List.mem_append.2 (.inl (List.mem_append.2 (.inr (List.mem_singleton.2 rfl))))
    · exact List.mem_append.2 (.inr (List.mem_append.2 (.inr (List.mem_singleton.2 rfl))))
  unfold knowsB
  exact List.any_eq_true.2 ⟨_, hm, by simp⟩
theorem LInv.see2 : Pur Tryz.prog 8 [.agg x.cells, .slice .frozen 2 (bdC [msgB j r, msgB j r])] (.tup [.agg (x.meet (msgB j r) (msgA r)).cells, .int .i64 1]) := by
  obtain ⟨a1, a2, a3, a4, a5⟩ := h.new r hj
  have hm := msg_ok j (by omega) r
  have hc3 : (msgB j r).c < 3 := by show (r.k % 3).toNat < 3; omega
  have hu : (msgB j r).u < 256 := by show j < 256; omega
  have hol := msg_outlen r j (by omega)
  have hla := h.la
  have h1 := meet_new x h.ok (msgB j r) hm hc3 hu (msgA r) (msg_wor j r) a1 a3 a4 a5 h.si a2 188 hol (by decide) (by omega)
  have hy := h.meet r hj
  have h2 := meet_known _ hy.ok (msgB j r) hm hc3 hu (LInv.knows (j := j) (x := x) r) 188 hol (by decide)
  have := See_ok x h.ok [msgB j r, msgB j r] (fun b hb => by simp at hb; rw [hb]; exact hm) 2 rfl (by decide) (fun k => if k = 0 then (x, 0) else (x.meet (msgB j r) (msgA r), 1)) rfl (fun k b hb => by
    match k, hb with
    | 0, hb =>
      obtain rfl : msgB j r = b := by simpa using hb
      exact ⟨true, h1, fun _ => rfl, fun h => by cases h⟩
    | 1, hb =>
      obtain rfl : msgB j r = b := by simpa using hb
      exact ⟨false, h2, fun h => (by cases h), fun _ => rfl⟩
    | k + 2, hb => simp at hb)
  exact this
end
end Go.Proofs.YtcfefmbbbfdppaaGreatDoor
