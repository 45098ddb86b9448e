/-
  A part of the proof: a row of indices as a heap; the order of names, one by one; items in memory, and a row of pointers to them. No condition of its own.
-/
import Derived.Test.YthmohmpalbnjoaaM10
import Derived.Test.YthmohmpalbnjoaaM5
set_option linter.unusedVariables false
set_option linter.unusedSimpArgs false
set_option maxRecDepth 10000
namespace Go.Proofs.Ythmohmpalbnjoaa.V
open Go Go.Proofs
theorem ent29 : Ent Try.prog 29 := Ent.of Try.func29 (by kernel_rfl) (by kernel_rfl)
theorem ent35 : Ent Try.prog 35 := Ent.of Try.func35 (by kernel_rfl) (by kernel_rfl)
theorem c_Past (A : List Nat) (w : World) (g bA bB : Nat) (m : Gm) (G : Gr 83 A w g bA bB m) (ids : List Str) (v0 : Value) (R : Rep [] w (strD ids) v0) (hn : ids.length ≤ 1000000) : Calls Try.prog 16 [.pointer (some ⟨g, 0, none⟩), v0].toArray w (Ret fun u w' => OwnS w' 9 u (past m ids) ∧ (∀ x ∈ ob u, w.heap.size ≤ x) ∧ Mod [] w w') := by
  refine enter Try.func16 rfl rfl rfl (l := [(0, _), (1, _)]) ⟨rfl, rfl, trivial⟩ ?_
  have E := Mod.refl [] w
  refine c_seq fun K1 hK1 => ?_
  refine c_region ?_
  refine sv (o_as rfl) rfl ?_
  refine l_nil ?_
  refine e_K (hK1 _ _ _ _ ?_)
  refine c_seq fun K2 hK2 => ?_
  refine c_region ?_
  refine sv (o_mv rfl) rfl ?_
  refine sv (o_mv rfl) rfl ?_
  refine sc (o_call ent29 rfl) (c_past A _ g bA bB m (G.mod0 E) ids _ (R.to0 E) hn) rfl fun v_ w1 h_ => ?_
  obtain ⟨bS, mp, rfl, HS, hmp, LbS, E_⟩ := h_
  replace E := E.then E_
  have hkeys : ∀ x ∈ mp.map (·.1), x ∈ m.keys := fun x hx => ((hmp x).1 hx).key G.wf
  have hml : mp.length ≤ 1000000 := by
    have := nodup_len HS.keys hkeys
    have := G.len
    simp [Gm.keys] at *
    omega
  have hmk : ∀ p ∈ mp, p.1.length ≤ 1000000 := fun p hp => by
    obtain ⟨q, hq, e⟩ := List.mem_map.1 (hkeys p.1 (List.mem_map_of_mem hp))
    rw [← e]
    exact G.small q hq
  refine sc (o_call ent35 rfl) (c_keys _ bS) rfl fun v_ w2 h_ => ?_
  obtain ⟨BK, rfl, BBK, LBK, E_⟩ := h_
  replace E := E.then E_
  replace HS := HS.mod0 E_
  have hEs := E.size
  refine sc (o_call ent34 rfl) (c_sortedK _ BK bS mp HS BBK hml hmk) rfl fun v_ w3 h_ => ?_
  obtain ⟨Os, LOs, E_⟩ := h_
  replace E := E.then E_
  refine sv (o_as rfl) rfl ?_
  refine l_nil ?_
  refine e_K (hK2 _ _ _ _ ?_)
  refine c_ret ?_
  exact ret1 rfl rfl ⟨by rw [past_set G.wf hmp] at Os; exact Os, fun x hx => by have := LOs x hx; omega, E⟩

theorem c_pastN (w : World) (ids : List Str) (v0 : Value) (R : Rep [] w (strD ids) v0) (hn : ids.length ≤ 1000000) : Calls Try.prog 29 [.pointer none, v0].toArray w (Ret fun u w' => ∃ bS, u = .map (some bS) ∧ MapB w' bS [] ∧ w.heap.size ≤ bS ∧ Mod [] w w') := by
  refine enter Try.func29 rfl rfl rfl (l := [(0, _), (1, _)]) ⟨rfl, rfl, trivial⟩ ?_
  have E := Mod.refl [] w
  refine c_seq fun K1 hK1 => ?_
  refine c_region ?_
  refine sv (o_as rfl) rfl ?_
  refine l_nil ?_
  refine e_K (hK1 _ _ _ _ ?_)
  refine c_seq fun K2 hK2 => ?_
  refine c_region ?_
  refine s_mmap rfl fun bS w1 HbS NbS MbS => ?_
  have LbS_E : w.heap.size ≤ bS := by have := E.size; omega
  replace E := E.then MbS
  refine sv (o_as rfl) rfl ?_
  refine l_nil ?_
  refine e_K (hK2 _ _ _ _ ?_)
  refine c_seq fun K3 hK3 => ?_
  refine c_region ?_
  refine sv (o_mv rfl) rfl ?_
  refine sc (o_call ent36 rfl) (c_cloneG _ ids _ (R.to0 E) hn) rfl fun v_ w2 h_ => ?_
  obtain ⟨Oc, LOc0, E_⟩ := h_
  replace HbS := HbS.mod0 E_
  replace E := E.then E_
  have LbS := LbS_E
  refine sv (o_as rfl) rfl ?_
  refine l_nil ?_
  refine e_K (hK3 _ _ _ _ ?_)
  refine c_seq fun K4 hK4 => ?_
  refine c_block ?_
  refine c_loop (σ := List Str × Value) (fun ⟨T, v⟩ => [(0, .pointer none), (5, .map (some bS)), (6, v)]) (fun ⟨T, v⟩ w1 => T.length ≤ 1000000 ∧ MapB w1 bS [] ∧ OwnS w1 9 v T ∧ Mod [] w w1) (fun ⟨T, v⟩ => T.length) (⟨ids, v_⟩) ⟨rfl, rfl, rfl, trivial⟩ (⟨hn, HbS, Oc, E⟩) ?_
  rintro ⟨T, v⟩ w3 ⟨hTl, HS, OT, E⟩
  refine c_seq fun K5 hK5 => ?_
  refine c_seq fun K6 hK6 => ?_
  refine c_region ?_
  obtain ⟨adT, cT, rfl, hcT1, hcT2⟩ := OT.form
  refine sv (o_mv rfl) rfl ?_
  refine sv (o_len Try.underlying23 rfl) rfl ?_
  refine sv (o_gtr rfl rfl) rfl ?_
  refine l_nil ?_
  refine e_K (hK6 _ _ _ _ ?_)
  refine c_if rfl (fun h13 => ?_) (fun h13 => ?_)
  · skip
    have hTpos : 0 < T.length := by omega
    obtain ⟨x, hx_x⟩ : ∃ x, T[T.length - 1]? = some x := ⟨_, List.getElem?_eq_getElem (by omega)⟩
    have ROT := OwnS.rep [] OT (by simp)
    obtain ⟨a_x, ha_x, hcs_x, _⟩ := flat_at ROT hx_x
    obtain rfl := ha_x
    have OT2 : OwnS w3 9 (.slice (some a_x) (T.length - 1) cT) (T.take (T.length - 1)) := OwnS.to (Own.take OT (m := T.length - 1) (by omega)) (by simp) (by rw [flat_take_ (sz := 1) (cells := fun s : Str => [S s]) (fun _ => rfl)])
    refine c_skip ?_
    refine e_K (hK5 _ _ _ _ ?_)
    refine c_block ?_
    refine c_seq fun K7 hK7 => ?_
    refine c_region ?_
    refine sv (o_mv rfl) rfl ?_
    refine sv (o_mv rfl) rfl ?_
    refine sv (o_len Try.underlying23 rfl) rfl ?_
    refine sv (o_subE (r := ((T.length - 1 : Nat) : Int)) rfl rfl (by rw [wrap64_in _ (by omega)]; omega)) rfl ?_
    refine sv (o_ix sl23 rfl rfl (by omega)) rfl ?_
    refine sv (o_ld sc9 rfl hcs_x.c0) rfl ?_
    refine sv (o_as rfl) rfl ?_
    refine l_nil ?_
    refine e_K (hK7 _ _ _ _ ?_)
    refine c_seq fun K8 hK8 => ?_
    refine c_region ?_
    refine sv (o_mv rfl) rfl ?_
    refine sv (o_mv rfl) rfl ?_
    refine sv (o_len Try.underlying23 rfl) rfl ?_
    refine sv (o_subE (r := ((T.length - 1 : Nat) : Int)) rfl rfl (by rw [wrap64_in _ (by omega)]; omega)) rfl ?_
    refine sv (o_slto sl23 rfl rfl (by omega) (by omega)) rfl ?_
    refine sv (o_as rfl) rfl ?_
    refine l_nil ?_
    refine e_K (hK8 _ _ _ _ ?_)
    refine c_seq fun K9 hK9 => ?_
    refine c_region ?_
    refine sv (o_mv rfl) rfl ?_
    refine sv (o_mv rfl) rfl ?_
    refine sc (o_call ent20 rfl) (c_hasN _ x) rfl fun v_ w4 h_ => ?_
    obtain ⟨rfl, E_⟩ := h_
    replace HS := HS.mod0 E_
    replace OT2 := OT2.mod0 E_
    replace E := E.then E_
    refine sv (o_mv rfl) rfl ?_
    refine sn rfl (fun e_ => absurd ((rfl).symm.trans e_) (by decide)) rfl ?_
    refine sn rfl (fun e_ => absurd ((rfl).symm.trans e_) (by decide)) rfl ?_
    refine sn rfl (fun e_ => absurd ((rfl).symm.trans e_) (by decide)) rfl ?_
    refine sn rfl (fun e_ => absurd ((rfl).symm.trans e_) (by decide)) rfl ?_
    refine sv (o_pickF (rfl) rfl rfl) rfl ?_
    refine l_nil ?_
    refine e_K (hK9 _ _ _ _ ?_)
    refine c_false rfl ?_
    refine c_skip ?_
    refine e_in (by simp) ?_
    exact e_round (σ := List Str × Value) (s := ⟨T, .slice (some a_x) T.length cT⟩) (⟨T.take (T.length - 1), .slice (some a_x) (T.length - 1) cT⟩) ⟨rfl, rfl, rfl, trivial⟩ ⟨by rw [List.length_take]; omega, HS, OT2, E⟩ (by dsimp only; rw [List.length_take]; omega)
  · skip
    refine c_exit ?_
    refine e_then (by simp) ?_
    refine e_then (by simp) ?_
    refine e_hit ?_
    refine e_K (hK4 _ _ _ _ ?_)
    refine c_seq fun K10 hK10 => ?_
    refine c_region ?_
    refine sv (o_mv rfl) rfl ?_
    refine sv (o_as rfl) rfl ?_
    refine l_nil ?_
    refine e_K (hK10 _ _ _ _ ?_)
    refine c_ret ?_
    exact ret1 rfl rfl ⟨bS, rfl, HS, LbS, E⟩

theorem c_PastN (w : World) (ids : List Str) (v0 : Value) (R : Rep [] w (strD ids) v0) (hn : ids.length ≤ 1000000) : Calls Try.prog 16 [.pointer none, v0].toArray w (Ret fun u w' => OwnS w' 9 u [] ∧ Mod [] w w') := by
  refine enter Try.func16 rfl rfl rfl (l := [(0, _), (1, _)]) ⟨rfl, rfl, trivial⟩ ?_
  have E := Mod.refl [] w
  refine c_seq fun K1 hK1 => ?_
  refine c_region ?_
  refine sv (o_as rfl) rfl ?_
  refine l_nil ?_
  refine e_K (hK1 _ _ _ _ ?_)
  refine c_seq fun K2 hK2 => ?_
  refine c_region ?_
  refine sv (o_mv rfl) rfl ?_
  refine sv (o_mv rfl) rfl ?_
  refine sc (o_call ent29 rfl) (c_pastN _ ids _ (R.to0 E) hn) rfl fun v_ w1 h_ => ?_
  obtain ⟨bS, rfl, HS, LbS, E_⟩ := h_
  replace E := E.then E_
  refine sc (o_call ent35 rfl) (c_keys _ bS) rfl fun v_ w2 h_ => ?_
  obtain ⟨BK, rfl, BBK, LBK, E_⟩ := h_
  replace E := E.then E_
  replace HS := HS.mod0 E_
  refine sc (o_call ent34 rfl) (c_sortedK _ BK bS [] HS BBK (by simp) (by simp)) rfl fun v_ w3 h_ => ?_
  obtain ⟨Os, LOs, E_⟩ := h_
  replace E := E.then E_
  refine sv (o_as rfl) rfl ?_
  refine l_nil ?_
  refine e_K (hK2 _ _ _ _ ?_)
  refine c_ret ?_
  exact ret1 rfl rfl ⟨Os, E⟩

theorem c_headsN (w : World) : Calls Try.prog 22 [.pointer none].toArray w (Ret fun u w' => u = .slice none 0 0 ∧ Mod [] w w') := by
  refine enter Try.func22 rfl rfl rfl (l := [(0, _)]) ⟨rfl, trivial⟩ ?_
  have E := Mod.refl [] w
  refine c_seq fun K1 hK1 => ?_
  refine c_region ?_
  refine sv (o_as rfl) rfl ?_
  refine l_nil ?_
  refine e_K (hK1 _ _ _ _ ?_)
  refine c_seq fun K2 hK2 => ?_
  refine c_seq fun K3 hK3 => ?_
  refine c_region ?_
  refine sv (o_mv rfl) rfl ?_
  refine sv (o_peq Try.underlying29 rfl rfl) rfl ?_
  refine l_nil ?_
  refine e_K (hK3 _ _ _ _ ?_)
  refine c_true rfl ?_
  refine c_seq fun K4 hK4 => ?_
  refine c_region ?_
  refine sv (o_as rfl) rfl ?_
  refine l_nil ?_
  refine e_K (hK4 _ _ _ _ ?_)
  refine c_ret ?_
  refine e_then (by simp) ?_
  exact ret1 rfl rfl ⟨rfl, E⟩

theorem c_addN (w : World) (s : Str) (v0 : Value) : Calls Try.prog 24 [.pointer none, S s, v0].toArray w (Ret fun u w' => u = .int .i64 2 ∧ Mod [] w w') := by
  refine enter Try.func24 rfl rfl rfl (l := [(0, _), (1, _), (2, _)]) ⟨rfl, rfl, rfl, trivial⟩ ?_
  have E := Mod.refl [] w
  refine c_seq fun K1 hK1 => ?_
  refine c_region ?_
  refine s_box rfl rfl rfl fun g1 w1 N1 => ?_
  have Lg1_E := N1.le E
  replace E := E.then N1.mod
  have Bg1 := N1.blk
  refine sv (o_as rfl) rfl ?_
  refine l_nil ?_
  refine e_K (hK1 _ _ _ _ ?_)
  refine c_seq fun K2 hK2 => ?_
  refine c_block ?_
  refine c_seq fun K3 hK3 => ?_
  refine c_region ?_
  refine sv (o_ld sc29 rfl (Bg1.cell rfl)) rfl ?_
  refine sv (o_peq Try.underlying29 rfl rfl) rfl ?_
  refine sv (o_as rfl) rfl ?_
  refine l_nil ?_
  refine e_K (hK3 _ _ _ _ ?_)
  refine c_true rfl ?_
  refine c_seq fun K4 hK4 => ?_
  refine c_region ?_
  refine sv (o_as rfl) rfl ?_
  refine l_nil ?_
  refine e_K (hK4 _ _ _ _ ?_)
  refine c_ret ?_
  refine e_in (by simp) ?_
  refine e_then (by simp) ?_
  exact ret1 rfl rfl ⟨rfl, E⟩

theorem c_orderN (w : World) (v0 v1 : Value) : Calls Try.prog 13 [.pointer none, v0, v1].toArray w (Ret fun u w' => u = .tuple #[.slice none 0 0, .int .i64 2] ∧ Mod [] w w') := by
  refine enter Try.func13 rfl rfl rfl (l := [(0, _), (1, _), (2, _)]) ⟨rfl, rfl, rfl, trivial⟩ ?_
  have E := Mod.refl [] w
  refine c_seq fun K1 hK1 => ?_
  refine c_region ?_
  refine sv (o_as rfl) rfl ?_
  refine sv (o_as rfl) rfl ?_
  refine l_nil ?_
  refine e_K (hK1 _ _ _ _ ?_)
  refine c_seq fun K2 hK2 => ?_
  refine c_block ?_
  refine c_seq fun K3 hK3 => ?_
  refine c_region ?_
  refine sv (o_mv rfl) rfl ?_
  refine sv (o_peq Try.underlying29 rfl rfl) rfl ?_
  refine sv (o_as rfl) rfl ?_
  refine l_nil ?_
  refine e_K (hK3 _ _ _ _ ?_)
  refine c_true rfl ?_
  refine c_seq fun K4 hK4 => ?_
  refine c_region ?_
  refine sv (o_as rfl) rfl ?_
  refine sv (o_as rfl) rfl ?_
  refine l_nil ?_
  refine e_K (hK4 _ _ _ _ ?_)
  refine c_ret ?_
  refine e_in (by simp) ?_
  refine e_then (by simp) ?_
  exact ret2 rfl rfl rfl ⟨rfl, E⟩

theorem c_headsG (A : List Nat) (w : World) (g bA bB : Nat) (m : Gm) (G : Gr 83 A w g bA bB m) : Calls Try.prog 22 [.pointer (some ⟨g, 0, none⟩)].toArray w (Ret fun u w' => OwnS w' 9 u (heads m) ∧ (∀ x ∈ ob u, w.heap.size ≤ x) ∧ Mod [] w w') := by
  refine enter Try.func22 rfl rfl rfl (l := [(0, _)]) ⟨rfl, trivial⟩ ?_
  have E := Mod.refl [] w
  obtain ⟨mA, HA, RMA⟩ := G.ah
  obtain ⟨mB, HB, BB⟩ := G.bh
  have Bg := G.blk
  have Bg0 := Bg
  refine c_seq fun K1 hK1 => ?_
  refine c_region ?_
  refine sv (o_as rfl) rfl ?_
  refine l_nil ?_
  refine e_K (hK1 _ _ _ _ ?_)
  refine c_seq fun K2 hK2 => ?_
  refine c_seq fun K3 hK3 => ?_
  refine c_region ?_
  refine sv (o_mv rfl) rfl ?_
  refine sv (o_peq Try.underlying29 rfl rfl) rfl ?_
  refine l_nil ?_
  refine e_K (hK3 _ _ _ _ ?_)
  refine c_false rfl ?_
  refine c_skip ?_
  refine e_K (hK2 _ _ _ _ ?_)
  refine c_seq fun K4 hK4 => ?_
  refine c_region ?_
  refine sv (o_as rfl) rfl ?_
  refine l_nil ?_
  refine e_K (hK4 _ _ _ _ ?_)
  refine c_seq fun K5 hK5 => ?_
  refine c_seq fun K6 hK6 => ?_
  refine c_region ?_
  refine sv (o_mv rfl) rfl ?_
  refine sv (o_nilc rfl) rfl ?_
  refine sv (o_fa0 fd83_0 rfl) rfl ?_
  refine sv (o_ld sc80 rfl (Bg.cell rfl)) rfl ?_
  refine s_mrange Try.underlying80 rfl (HA.mod0 E) rfl fun gi w1 I Ngi Mgi => ?_
  have Lgi : w.heap.size ≤ gi := by have := E.size; omega
  replace Bg := Bg.mod0 Mgi
  replace E := E.then Mgi
  refine l_nil ?_
  refine e_K (hK6 _ _ _ _ ?_)
  refine c_block ?_
  refine c_loop (σ := List Str × List Str × Option (Str × Value) × Value) (fun ⟨L, O, last, v⟩ => [(0, .pointer (some ⟨g, 0, none⟩)), (3, v), (11, .pointer (some ⟨gi, 0, none⟩))]) (fun ⟨L, O, last, v⟩ w1 => HS m L O ∧ (∀ x ∈ L, x ∈ m.keys) ∧ MIt w1 gi bA mA L last ∧ OwnS w1 9 v O ∧ (∀ y ∈ ob v, w.heap.size ≤ y) ∧ Blk w1 g 83 [.map (some bA), .map (some bB)] ∧ Mod [] w w1) (fun ⟨L, O, last, v⟩ => L.length) (⟨m.keys, [], none, .slice none 0 0⟩) ⟨rfl, rfl, rfl, trivial⟩ (⟨HS.init, fun x hx => hx, by rw [← RMA.keys]; exact I, OwnS.nil _ _, by simp [ob], Bg, E⟩) ?_
  rintro ⟨L, O, last, v⟩ w2 ⟨hHS, hsub, I, OO, LO, Bg, E⟩
  have Dg : ∀ y ∈ ob v, y ≠ g := fun y hy h => by have := LO y hy; have := Bg0.lt; omega
  refine c_seq fun K7 hK7 => ?_
  refine c_region ?_
  refine s_mnext rfl I rfl (fun hL0 => ?_) (fun key vk w3 hkL hvk I2 EI => ?_)
  · skip
    subst hL0
    refine sv (o_ext rfl rfl) rfl ?_
    refine l_nil ?_
    refine e_K (hK7 _ _ _ _ ?_)
    refine c_seq fun K8 hK8 => ?_
    refine c_false rfl ?_
    refine c_exit ?_
    refine e_then (by simp) ?_
    refine e_then (by simp) ?_
    refine e_hit ?_
    refine e_K (hK5 _ _ _ _ ?_)
    refine c_seq fun K9 hK9 => ?_
    refine c_region ?_
    refine sv (o_mv rfl) rfl ?_
    refine sc (o_call ent37 rfl) (c_sortS _ _ O OO (by have := hHS.len; have := G.len; omega)) rfl fun v_ w4 h_ => ?_
    obtain ⟨⟨l2, hs2, hp2, O2⟩, E2_⟩ := h_
    replace E := E.trans' E2_ (fun x hx => .inr (LO x hx))
    refine l_nil ?_
    refine e_K (hK9 _ _ _ _ ?_)
    refine c_seq fun K10 hK10 => ?_
    refine c_region ?_
    refine sv (o_mv rfl) rfl ?_
    refine sv (o_as rfl) rfl ?_
    refine l_nil ?_
    refine e_K (hK10 _ _ _ _ ?_)
    refine c_ret ?_
    exact ret1 rfl rfl ⟨by rw [HS.done hHS hs2 hp2] at O2; exact O2, LO, E⟩
  · skip
    have hgo := Own.ne_it OO I
    replace OO := Own.mod OO EI (fun y hy h => hgo y hy (by simpa using h))
    replace Bg := Bg.mod EI (by simp; have := Bg0.lt; omega)
    replace E := E.trans' EI (fun y hy => .inr (by simp at hy; omega))
    have hkm : key ∈ m.keys := hsub key hkL
    refine sv (o_ext rfl rfl) rfl ?_
    refine l_nil ?_
    refine e_K (hK7 _ _ _ _ ?_)
    refine c_seq fun K11 hK11 => ?_
    refine c_true rfl ?_
    refine c_skip ?_
    refine e_K (hK11 _ _ _ _ ?_)
    refine c_block ?_
    refine c_seq fun K12 hK12 => ?_
    refine c_region ?_
    refine sv (o_mentry rfl I2) rfl ?_
    refine sv (o_ext rfl rfl) rfl ?_
    refine sv (o_as rfl) rfl ?_
    refine l_nil ?_
    refine e_K (hK12 _ _ _ _ ?_)
    refine c_seq fun K13 hK13 => ?_
    refine c_region ?_
    refine sv (o_mv rfl) rfl ?_
    refine sv (o_nilc rfl) rfl ?_
    refine sv (o_fa0 fd83_1 rfl) rfl ?_
    refine sv (o_ld sc81 rfl (Bg.cell rfl)) rfl ?_
    refine sv (o_mv rfl) rfl ?_
    refine sv ((o_lk Try.underlying81 Try.underlying9 zb3 rfl (.inr ⟨_, rfl, HB.mod0 E⟩) rfl).to (BB key)) rfl ?_
    refine sv (o_eql rfl rfl) rfl ?_
    refine l_nil ?_
    refine e_K (hK13 _ _ _ _ ?_)
    refine c_if rfl (fun h22 => ?_) (fun h22 => ?_)
    · skip
      have hb0 : behind m key = 0 := by have h := h22; omega
      have hOl := hHS.len
      have hml := G.len
      refine c_region ?_
      refine sv (o_mv rfl) rfl ?_
      refine sv (o_mv rfl) rfl ?_
      refine s_bslice (cs := [_]) sl23 zv9 rfl rfl rfl (by decide) rfl fun g1 w5 N1 => ?_
      have Lg1_E := N1.le E
      have Dg_g1 := N1.ne Bg
      have Da0_g1 := N1.own_ne OO
      replace I2 := I2.mod0 N1.mod
      replace Bg := Bg.mod0 N1.mod
      replace E := E.then N1.mod
      replace OO := OO.mod0 N1.mod
      have Bg1 := N1.blk
      have hgi := I2.lt
      have hgo2 := Own.ne_it OO I2
      refine s_append sl23 rfl rfl OO (Src.own Try.underlying23 (Own.all (cs := [_]) Bg1 rfl (by omega)) (by simp [Value.oneCell'])) (by decide) (by omega) (by omega) rfl fun v1 w6 A1 => ?_
      have Dv1_g := A1.ne Dg Bg
      have Dv1_g1 := A1.ne Da0_g1 Bg1
      have Lv1_E := A1.ge LO E
      replace Bg := Bg.mod A1.mod (fun hx => Dg _ hx rfl)
      replace Bg1 := Bg1.mod A1.mod (fun hx => Da0_g1 _ hx rfl)
      replace E := E.trans' A1.mod (fun x hx => .inr (LO x hx))
      replace OO := A1.own
      replace I2 := I2.mod A1.mod (fun h => hgo2 _ h rfl) (fun h => by have := LO _ h; have := HA.lt; omega)
      refine sv (o_as rfl) rfl ?_
      refine l_nil ?_
      refine e_in (by simp) ?_
      exact e_round (σ := List Str × List Str × Option (Str × Value) × Value) (s := ⟨L, O, last, v⟩) (⟨L.filter (fun q => decide (q ≠ key)), O ++ [key], some (key, vk), v1⟩) ⟨rfl, rfl, rfl, trivial⟩ ⟨HS.yes hHS hkL hkm hb0, fun x hx => hsub x ((List.mem_filter.1 hx).1), I2, OwnS.to OO (by simp) (by simp), Lv1_E, Bg, E⟩ (by dsimp only; exact filter_lt hkL)
    · skip
      have hb0 : behind m key ≠ 0 := by have h := h22; omega
      refine c_skip ?_
      refine e_in (by simp) ?_
      exact e_round (σ := List Str × List Str × Option (Str × Value) × Value) (s := ⟨L, O, last, v⟩) (⟨L.filter (fun q => decide (q ≠ key)), O, some (key, vk), v⟩) ⟨rfl, rfl, rfl, trivial⟩ ⟨HS.no hHS hb0, fun x hx => hsub x ((List.mem_filter.1 hx).1), I2, OO, LO, Bg, E⟩ (by dsimp only; exact filter_lt hkL)
end Go.Proofs.Ythmohmpalbnjoaa.V

set_option linter.unusedVariables false
set_option linter.unusedSimpArgs false
namespace Go.Proofs.Ythmohmpalbnjoaa.V
open Go
/-! ## comparing -/
def icmp (a b : Int) : Int := if a < b then -1 else if b < a then 1 else 0
theorem rlt_or (a b : Rk) (x y : Str) : decide (orI [icmp a.a b.a, icmp a.b b.b, scmp a.s b.s, scmp x y] < 0) = rlt a x b y := by
  have hi : ∀ u v : Int, icmp u v = 0 ↔ u = v := fun u v => by unfold icmp; split <;> (try split) <;> omega
  have hl : ∀ u v : Int, icmp u v < 0 ↔ u < v := fun u v => by unfold icmp; split <;> (try split) <;> omega
  have hs : ∀ u v : Str, decide (scmp u v < 0) = bl u v := fun u v => by
    cases hb : bl u v with
    | true => simpa using scmp_lt.2 hb
    | false => simp only [decide_eq_false_iff_not]; intro h; rw [scmp_lt.1 h] at hb; cases hb
  have hi0 : ∀ u : Int, icmp u u = 0 := fun u => (hi u u).2 rfl
  have hs0 : ∀ u : Str, scmp u u = 0 := fun u => scmp_eq.2 rfl
  by_cases h1 : a.a = b.a
  · have e1 := (hi _ _).2 h1
    by_cases h2 : a.b = b.b
    · have e2 := (hi _ _).2 h2
      by_cases h3 : a.s = b.s
      · have e3 := scmp_eq.2 h3
        by_cases h4 : scmp x y = 0
        · have h5 := scmp_eq.1 h4
          subst h5
          simp [orI, rlt, h1, h2, h3, bl_irrefl, hi0, hs0]
        · simp [orI, rlt, h1, h2, h3, h4, hs, hi0, hs0]
      · have e3 : scmp a.s b.s ≠ 0 := fun h => h3 (scmp_eq.1 h)
        simp [orI, rlt, e3, h1, h2, h3, hs, hi0]
    · have e2 : icmp a.b b.b ≠ 0 := fun h => h2 ((hi _ _).1 h)
      simp [orI, rlt, e2, h1, h2, hl, hi0]
  · have e1 : icmp a.a b.a ≠ 0 := fun h => h1 ((hi _ _).1 h)
    simp [orI, rlt, e1, h1, hl]
/-- a strict order on what stands in a row -/
structure SO (lt : Nat → Nat → Bool) (n : Nat) : Prop where
  ir : ∀ i, lt i i = false
  tr : ∀ i j k, lt i j = true → lt j k = true → lt i k = true
  tot : ∀ i j, i < n → j < n → i ≠ j → lt i j = true ∨ lt j i = true
theorem rlt_irrefl (a : Rk) (x : Str) : rlt a x a x = false := by simp [rlt, bl_irrefl]
theorem rlt_trans {a b c : Rk} {x y z : Str} (h : rlt a x b y = true) (h' : rlt b y c z = true) : rlt a x c z = true := by
  unfold rlt at *
  by_cases h1 : a.a = b.a
  · by_cases h2 : b.a = c.a
    · rw [if_neg (by simp [h1])] at h
      rw [if_neg (by simp [h2])] at h'
      rw [if_neg (by simp [h1, h2])]
      by_cases h3 : a.b = b.b
      · by_cases h4 : b.b = c.b
        · rw [if_neg (by simp [h3])] at h
          rw [if_neg (by simp [h4])] at h'
          rw [if_neg (by simp [h3, h4])]
          by_cases h5 : a.s = b.s
          · by_cases h6 : b.s = c.s
            · rw [if_neg (by simp [h5])] at h
              rw [if_neg (by simp [h6])] at h'
              rw [if_neg (by simp [h5, h6])]
              exact bl_trans h h'
            · rw [if_pos h6] at h'
              rw [if_pos (by rw [h5]; exact h6), h5]
              exact h'
          · rw [if_pos h5] at h
            by_cases h6 : b.s = c.s
            · rw [if_pos (by rw [← h6]; exact h5), ← h6]
              exact h
            · rw [if_pos h6] at h'
              have := bl_trans h h'
              rw [if_pos (fun e => by rw [e, bl_irrefl] at this; cases this)]
              exact this
        · rw [if_pos h4] at h'
          rw [if_pos (by rw [h3]; exact h4), h3]
          exact h'
      · rw [if_pos h3] at h
        by_cases h4 : b.b = c.b
        · rw [if_pos (by rw [← h4]; exact h3), ← h4]
          exact h
        · rw [if_pos h4] at h'
          simp only [decide_eq_true_eq] at h h'
          rw [if_pos (by omega)]
          simp only [decide_eq_true_eq]
          omega
    · rw [if_pos h2] at h'
      rw [if_pos (by rw [h1]; exact h2), h1]
      exact h'
  · rw [if_pos h1] at h
    by_cases h2 : b.a = c.a
    · rw [if_pos (by rw [← h2]; exact h1), ← h2]
      exact h
    · rw [if_pos h2] at h'
      simp only [decide_eq_true_eq] at h h'
      rw [if_pos (by omega)]
      simp only [decide_eq_true_eq]
      omega
theorem rlt_total {a b : Rk} {x y : Str} (h : x ≠ y) : rlt a x b y = true ∨ rlt b y a x = true := by
  unfold rlt
  by_cases h1 : a.a = b.a
  · rw [if_neg (show ¬ a.a ≠ b.a from fun h => h h1), if_neg (show ¬ b.a ≠ a.a from fun h => h h1.symm)]
    by_cases h2 : a.b = b.b
    · rw [if_neg (show ¬ a.b ≠ b.b from fun h => h h2), if_neg (show ¬ b.b ≠ a.b from fun h => h h2.symm)]
      by_cases h3 : a.s = b.s
      · rw [if_neg (show ¬ a.s ≠ b.s from fun h => h h3), if_neg (show ¬ b.s ≠ a.s from fun h => h h3.symm)]
        rcases bl_total x y with h4 | h4 | h4
        · exact .inl h4
        · exact absurd h4 h
        · exact .inr h4
      · rw [if_pos h3, if_pos (Ne.symm h3)]
        rcases bl_total a.s b.s with h4 | h4 | h4
        · exact .inl h4
        · exact absurd h4 h3
        · exact .inr h4
    · rw [if_pos h2, if_pos (Ne.symm h2)]
      simp only [decide_eq_true_eq]
      omega
  · rw [if_pos h1, if_pos (Ne.symm h1)]
    simp only [decide_eq_true_eq]
    omega
/-! ## heaps -/
abbrev at0 (h : List Nat) (i : Nat) : Nat := h[i]?.getD 0
def swp (h : List Nat) (i j : Nat) : List Nat := (h.set i (at0 h j)).set j (at0 h i)
theorem swp_len (h : List Nat) (i j : Nat) : (swp h i j).length = h.length := by simp [swp]
theorem at_swp {h : List Nat} {i j k : Nat} (hi : i < h.length) (hj : j < h.length) : at0 (swp h i j) k = if k = j then at0 h i else if k = i then at0 h j else at0 h k := by
  unfold swp
  by_cases h1 : k = j
  · subst h1
    rw [if_pos rfl]
    simp [at0, hj]
  · rw [if_neg h1]
    by_cases h2 : k = i
    · subst h2
      rw [if_pos rfl]
      simp [at0, Ne.symm h1, List.getElem?_set, hi]
    · rw [if_neg h2]
      simp [at0, List.getElem?_set, Ne.symm h1, Ne.symm h2]
theorem at_mem {h : List Nat} {i : Nat} (hi : i < h.length) : at0 h i ∈ h := by
  simp [at0, List.getElem?_eq_getElem hi]
theorem mem_at {h : List Nat} {x : Nat} (hx : x ∈ h) : ∃ i, i < h.length ∧ at0 h i = x := by
  obtain ⟨i, hi, e⟩ := List.mem_iff_getElem.1 hx
  exact ⟨i, hi, by simp [at0, List.getElem?_eq_getElem hi, e]⟩
theorem swp_perm {h : List Nat} {i j : Nat} (hi : i < h.length) (hj : j < h.length) : (swp h i j).Perm h := by
  have hP := (Array.swap_perm (xs := h.toArray) (i := i) (j := j) (by simpa using hi) (by simpa using hj)).toList
  have : (h.toArray.swap i j (by simpa using hi) (by simpa using hj)).toList = swp h i j := by
    apply List.ext_getElem?
    intro k
    simp only [Array.getElem?_toList, swp, List.getElem?_set, List.length_set]
    rw [Array.getElem?_swap]
    simp only [List.getElem_toArray]
    by_cases h1 : k = j
    · subst h1
      simp [at0, hi, hj]
    · by_cases h2 : k = i
      · subst h2
        simp [at0, Ne.symm h1, h1, hi, hj]
      · simp [h1, h2, Ne.symm h1, Ne.symm h2]
  rw [this] at hP
  simpa using hP
section
variable {lt : Nat → Nat → Bool} {n : Nat} {h : List Nat} {i j : Nat}
def Heap (lt : Nat → Nat → Bool) (h : List Nat) (n : Nat) : Prop := ∀ c, c < n → 0 < c → lt (at0 h c) (at0 h ((c - 1) / 2)) = false
/-- all is well but at j and above -/
def UpI (lt : Nat → Nat → Bool) (h : List Nat) (j : Nat) : Prop := (∀ c, c < h.length → 0 < c → c ≠ j → lt (at0 h c) (at0 h ((c - 1) / 2)) = false) ∧ ∀ c, c < h.length → 0 < c → (c - 1) / 2 = j → 0 < j → lt (at0 h c) (at0 h ((j - 1) / 2)) = false
theorem SO.nlt (S : SO lt n) {a b c : Nat} (ha : a < n) (hb : b < n) (hc : c < n) (h1 : lt a b = false) (h2 : lt b c = false) : lt a c = false := by
  cases h3 : lt a c with
  | false => rfl
  | true =>
    by_cases e : b = c
    · subst e; rw [h3] at h1; cases h1
    rcases S.tot b c hb hc e with h4 | h4
    · rw [h4] at h2; cases h2
    · rw [S.tr a c b h3 h4] at h1; cases h1
theorem SO.nlt' (S : SO lt n) {a b : Nat} (h1 : lt a b = true) : lt b a = false := by
  cases h2 : lt b a with
  | false => rfl
  | true =>
    have := S.tr _ _ _ h1 h2
    rw [S.ir] at this
    cases this
theorem UpI.done (U : UpI lt h j) (hs : j = 0 ∨ lt (at0 h j) (at0 h ((j - 1) / 2)) = false) : Heap lt h h.length := fun c hc h0 => by
  by_cases e : c = j
  · subst e
    rcases hs with hs | hs
    · omega
    · exact hs
  · exact U.1 c hc h0 e
theorem UpI.step (S : SO lt n) (hn : ∀ x ∈ h, x < n) (U : UpI lt h j) (hj : j < h.length) (h0 : 0 < j) (hl : lt (at0 h j) (at0 h ((j - 1) / 2)) = true) : UpI lt (swp h ((j - 1) / 2) j) ((j - 1) / 2) := by
  have hp : (j - 1) / 2 < h.length := by omega
  have hb : ∀ k, k < h.length → at0 h k < n := fun k hk => hn _ (at_mem hk)
  refine ⟨fun c hc hc0 hcp => ?_, fun c hc hc0 hcp hp0 => ?_⟩
  · rw [swp_len] at hc
    rw [at_swp hp hj, at_swp hp hj]
    by_cases e : c = j
    · subst e
      rw [if_pos rfl, if_neg (by omega), if_pos rfl]
      exact S.nlt' hl
    · rw [if_neg e, if_neg hcp]
      by_cases e1 : (c - 1) / 2 = j
      · rw [if_pos e1]
        exact U.2 c hc hc0 e1 h0
      · rw [if_neg e1]
        by_cases e2 : (c - 1) / 2 = (j - 1) / 2
        · rw [if_pos e2]
          have h1 := U.1 c hc hc0 e
          rw [e2] at h1
          exact S.nlt (hb c hc) (hb _ hp) (hb j hj) h1 (S.nlt' hl)
        · rw [if_neg e2]
          exact U.1 c hc hc0 e
  · rw [swp_len] at hc
    rw [at_swp hp hj, at_swp hp hj]
    have hq : ((j - 1) / 2 - 1) / 2 ≠ j := by omega
    have hq2 : ((j - 1) / 2 - 1) / 2 ≠ (j - 1) / 2 := by omega
    rw [if_neg hq, if_neg hq2]
    have hpp := U.1 ((j - 1) / 2) hp hp0 (by omega)
    by_cases e : c = j
    · subst e
      rw [if_pos rfl]
      exact hpp
    · rw [if_neg e, if_neg (by omega)]
      have h1 := U.1 c hc hc0 e
      rw [hcp] at h1
      exact S.nlt (hb c hc) (hb _ hp) (hb _ (by omega)) h1 hpp
/-- .. but at i and below -/
def DnI (lt : Nat → Nat → Bool) (h : List Nat) (m i : Nat) : Prop := (∀ c, c < m → 0 < c → (c - 1) / 2 ≠ i → lt (at0 h c) (at0 h ((c - 1) / 2)) = false) ∧ ∀ c, c < m → 0 < c → (c - 1) / 2 = i → 0 < i → lt (at0 h c) (at0 h ((i - 1) / 2)) = false
theorem DnI.none {m : Nat} (U : DnI lt h m i) (hm : m ≤ 2 * i + 1) : Heap lt h m := fun c hc h0 => U.1 c hc h0 (by omega)
theorem DnI.done {m : Nat} (S : SO lt n) (hn : ∀ x ∈ h, x < n) (U : DnI lt h m i) (hml : m ≤ h.length) (hj : j < m) (hj2 : j = 2 * i + 1 ∨ j = 2 * i + 2) (hb : ∀ c, c < m → (c = 2 * i + 1 ∨ c = 2 * i + 2) → lt (at0 h c) (at0 h j) = false) (hs : lt (at0 h j) (at0 h i) = false) : Heap lt h m := fun c hc h0 => by
  have hbd : ∀ k, k < m → at0 h k < n := fun k hk => hn _ (at_mem (by omega))
  by_cases e : (c - 1) / 2 = i
  · rw [e]
    exact S.nlt (hbd c hc) (hbd j hj) (hbd i (by omega)) (hb c hc (by omega)) hs
  · exact U.1 c hc h0 e
theorem DnI.step {m : Nat} (S : SO lt n) (hn : ∀ x ∈ h, x < n) (U : DnI lt h m i) (hml : m ≤ h.length) (hj : j < m) (hj2 : j = 2 * i + 1 ∨ j = 2 * i + 2) (hb : ∀ c, c < m → (c = 2 * i + 1 ∨ c = 2 * i + 2) → lt (at0 h c) (at0 h j) = false) (hl : lt (at0 h j) (at0 h i) = true) : DnI lt (swp h i j) m j := by
  have hi' : i < h.length := by omega
  have hj' : j < h.length := by omega
  have hbd : ∀ k, k < m → at0 h k < n := fun k hk => hn _ (at_mem (by omega))
  refine ⟨fun c hc hc0 hcp => ?_, fun c hc hc0 hcp hp0 => ?_⟩
  · rw [at_swp hi' hj', at_swp hi' hj']
    by_cases e : c = j
    · subst e
      rw [if_pos rfl, if_neg (by omega), if_pos (by omega)]
      exact S.nlt' hl
    · rw [if_neg e]
      by_cases e1 : c = i
      · subst e1
        rw [if_pos rfl, if_neg (by omega), if_neg (by omega)]
        exact U.2 j hj (by omega) (by omega) hc0
      · rw [if_neg e1, if_neg hcp]
        by_cases e2 : (c - 1) / 2 = i
        · rw [if_pos e2]
          exact hb c hc (by omega)
        · rw [if_neg e2]
          exact U.1 c hc hc0 e2
  · have e1 : (j - 1) / 2 = i := by omega
    rw [at_swp hi' hj', at_swp hi' hj', if_neg (by omega), if_neg (by omega), e1, if_neg (by omega), if_pos rfl]
    have := U.1 c hc hc0 (by omega)
    rwa [hcp] at this
theorem Heap.min (S : SO lt n) (hn : ∀ x ∈ h, x < n) (H : Heap lt h h.length) : ∀ i, i < h.length → lt (at0 h i) (at0 h 0) = false := by
  intro i
  induction i using Nat.strongRecOn with
  | _ i ih =>
    intro hi
    by_cases h0 : i = 0
    · subst h0; exact S.ir _
    · have h1 := H i hi (by omega)
      have h2 := ih ((i - 1) / 2) (by omega) (by omega)
      have hbd : ∀ k, k < h.length → at0 h k < n := fun k hk => hn _ (at_mem hk)
      exact S.nlt (hbd i hi) (hbd _ (by omega)) (hbd 0 (by omega)) h1 h2
theorem UpI.push {x : Nat} (H : Heap lt h h.length) : UpI lt (h ++ [x]) h.length := by
  have ha : ∀ k, k < h.length → at0 (h ++ [x]) k = at0 h k := fun k hk => by simp [at0, List.getElem?_append_left hk]
  refine ⟨fun c hc hc0 hcp => ?_, fun c hc hc0 hcp hp0 => ?_⟩
  · simp at hc
    rw [ha c (by omega), ha _ (by omega)]
    exact H c (by omega) hc0
  · simp at hc
    omega
/-- the first one is put last: all is well but at the first -/
theorem DnI.pop (H : Heap lt h h.length) (hl : 0 < h.length) : DnI lt (swp h 0 (h.length - 1)) (h.length - 1) 0 := by
  refine ⟨fun c hc hc0 hcp => ?_, fun c hc hc0 hcp hp0 => by omega⟩
  rw [at_swp hl (by omega), at_swp hl (by omega), if_neg (by omega), if_neg (by omega), if_neg (by omega), if_neg hcp]
  exact H c (by omega) hc0
end
end Go.Proofs.Ythmohmpalbnjoaa.V

set_option linter.unusedVariables false
set_option linter.unusedSimpArgs false
namespace Go.Proofs.Ythmohmpalbnjoaa.V
open Go
theorem cell_mod0 {w w' : World} {a : Addr} {v : Value} (h : w.cell? a = some v) (k : Mod [] w w') : w'.cell? a = some v := by
  have hlt := World.block_lt_of_cell? w _ h
  rw [← h]
  exact World.cell?_of_block (k.block _ hlt (by simp))
/-- the items: where each lies, its name, rank, how many it waits for, who waits for it -/
structure Its where
  n : Nat
  pt : Nat → Nat
  id : Nat → Str
  rk : Nat → Rk
  lf : Nat → Int
  lv : Nat → Value
abbrev Its.cells (I : Its) (i : Nat) : List Value := [S (I.id i), .int .i64 (I.rk i).a, .int .i64 (I.rk i).b, S (I.rk i).s, .int .i64 (I.lf i), I.lv i]
abbrev Its.pv (I : Its) (i : Nat) : Value := .pointer (some ⟨I.pt i, 0, none⟩)
abbrev Its.lt (I : Its) (i j : Nat) : Bool := rlt (I.rk i) (I.id i) (I.rk j) (I.id j)
def Its.In (I : Its) (T : TypeId) (w : World) : Prop := ∀ i, i < I.n → Blk w (I.pt i) T (I.cells i)
theorem Its.In.mod {I : Its} {T : TypeId} {w w' : World} {M : List Nat} (h : I.In T w) (k : Mod M w w') (hM : ∀ i, i < I.n → I.pt i ∉ M) : I.In T w' := fun i hi => (h i hi).mod k (hM i hi)
theorem Its.In.mod0 {I : Its} {T : TypeId} {w w' : World} (h : I.In T w) (k : Mod [] w w') : I.In T w' := h.mod k (by simp)
theorem Its.so {I : Its} (h : ∀ i j, i < I.n → j < I.n → I.id i = I.id j → i = j) : SO I.lt I.n :=
  ⟨fun i => rlt_irrefl _ _, fun i j k h1 h2 => rlt_trans h1 h2, fun i j hi hj hij => rlt_total fun e => hij (h i j hi hj e)⟩
/-- a row of pointers -/
abbrev OwnR (I : Its) (e : TypeId) (w : World) (v : Value) (h : List Nat) : Prop := Own w e 1 v h.length (h.map I.pv)
theorem Own.neT {w : World} {e sz n g T : Nat} {v : Value} {vs cs : List Value} (O : Own w e sz v n vs) (B : Blk w g T cs) (hT : T ≠ e) : ∀ x ∈ ob v, x ≠ g := by
  rcases O.2 with ⟨rfl, _⟩ | ⟨g', o, c, cs', rfl, hB, _⟩
  · simp [ob]
  · intro x hx e
    simp [ob] at hx
    subst hx
    subst e
    unfold Blk at B hB
    rw [hB] at B
    injection B with B
    injection B with _ B
    exact hT B.symm
theorem OwnR.at_ {I : Its} {e : TypeId} {w : World} {ad : Option Addr} {c i : Nat} {h : List Nat} (O : OwnR I e w (.slice ad h.length c) h) (hi : i < h.length) : ∃ a, ad = some a ∧ w.cell? (a.add (i * 1)) = some (I.pv (at0 h i)) := by
  rcases O.2 with ⟨h0, h1⟩ | ⟨g, o, c', cs, hv, hB, _⟩
  · omega
  · injection hv with hv
    subst hv
    refine ⟨_, rfl, ?_⟩
    have := O.cs i (I.pv (at0 h i)) (by simp [at0, List.getElem?_eq_getElem hi])
    rw [Nat.mul_one]
    exact this
theorem OwnR.ad_some {I : Its} {e : TypeId} {w : World} {ad : Option Addr} {c : Nat} {h : List Nat} (O : OwnR I e w (.slice ad h.length c) h) (hi : 0 < h.length) : ∃ a, ad = some a := by
  obtain ⟨a, ha, _⟩ := O.at_ hi
  exact ⟨a, ha⟩
theorem OwnR.swp {I : Its} {e : TypeId} {w : World} {v : Value} {h : List Nat} {i j : Nat} {n : Nat} (O : Own w e 1 v n (((h.map I.pv).set i (I.pv (at0 h j))).set j (I.pv (at0 h i)))) (hn : n = h.length) : OwnR I e w v (Go.Proofs.Ythmohmpalbnjoaa.V.swp h i j) := by
  subst hn
  refine Own.same O (swp_len h i j).symm ?_
  unfold Go.Proofs.Ythmohmpalbnjoaa.V.swp
  rw [List.map_set, List.map_set]
theorem half_of (k : Nat) (h : k ≤ 4611686018427387904) : Value.int .i64 (IntKind.i64.wrap (((k : Int) - 1).tdiv 2)) = .int .i64 (((k - 1) / 2 : Nat) : Int) := by
  have h1 : ((k : Int) - 1).tdiv 2 = (((k - 1) / 2 : Nat) : Int) := by
    cases k with
    | zero => rfl
    | succ k =>
      have : (((k + 1 : Nat) : Int) - 1) = (k : Int) := by omega
      rw [this, Int.tdiv_eq_ediv_of_nonneg (by omega)]
      simp
  rw [h1, wrap64_in _ (by omega)]
theorem OwnR.take_ {I : Its} {e : TypeId} {w : World} {ad : Option Addr} {c : Nat} {h : List Nat} (O : OwnR I e w (.slice ad h.length c) h) (hl : 0 < h.length) : OwnR I e w (.slice ad (h.length - 1) c) (h.take (h.length - 1)) := by
  have := Own.take O (m := h.length - 1) (by omega)
  refine Own.same this (by simp) ?_
  rw [Nat.mul_one, List.map_take]
theorem Blk.neT_ {w : World} {g g' T T' : Nat} {cs cs' : List Value} (h : Blk w g T cs) (h' : Blk w g' T' cs') (hT : T ≠ T') : g ≠ g' := fun e => by
  subst e
  unfold Blk at h h'
  rw [h] at h'
  injection h' with h'
  injection h' with _ h'
  exact hT h'
theorem last_take {hh : List Nat} (hl : 0 < hh.length) : hh = hh.take (hh.length - 1) ++ [at0 hh (hh.length - 1)] := by
  have h1 : hh[hh.length - 1]? = some (at0 hh (hh.length - 1)) := by
    unfold at0
    rw [List.getElem?_eq_getElem (by omega)]
    rfl
  have := take_succ_snoc h1
  rwa [show hh.length - 1 + 1 = hh.length by omega, List.take_length] at this
theorem pop_perm {h hh : List Nat} (hl : 0 < hh.length) (hp : hh.Perm h) : (at0 hh (hh.length - 1) :: hh.take (hh.length - 1)).Perm h := by
  refine List.Perm.trans ?_ hp
  have := last_take hl
  generalize hh.take (hh.length - 1) = a at *
  generalize at0 hh (hh.length - 1) = b at *
  rw [this]
  exact (List.perm_append_singleton b a).symm
theorem pop_min {lt : Nat → Nat → Bool} {n : Nat} {h hh : List Nat} (S : SO lt n) (hn : ∀ x ∈ h, x < n) (H : Heap lt h h.length) (hl : hh.length = h.length) (h0 : 0 < h.length) (hs : ∀ k, h.length - 1 ≤ k → at0 hh k = at0 (swp h 0 (h.length - 1)) k) : ∀ y ∈ h, lt y (at0 hh (hh.length - 1)) = false := fun y hy => by
  rw [hl, hs _ (Nat.le_refl _), at_swp h0 (by omega), if_pos rfl]
  obtain ⟨i, hi, e⟩ := mem_at hy
  subst e
  exact H.min S hn i hi
theorem pop_heap {lt : Nat → Nat → Bool} {hh : List Nat} (H : Heap lt hh (hh.length - 1)) (hl : 0 < hh.length) : Heap lt (hh.take (hh.length - 1)) (hh.take (hh.length - 1)).length := fun c hc h0 => by
  rw [List.length_take] at hc
  have ha : ∀ k, k < hh.length - 1 → at0 (hh.take (hh.length - 1)) k = at0 hh k := fun k hk => by
    unfold at0
    rw [List.getElem?_take, if_pos hk]
  rw [ha c (by omega), ha _ (by omega)]
  exact H c (by omega) h0
theorem rk_flat {w : World} {g : Nat} {a b c d : Int} {e : TypeId} (h : Blk w g e [.int .i64 a, .int .i64 b, .int .i64 c, .int .i64 d]) : Rep [] w (flat 1 ic [a, b, c, d]) (.slice (some ⟨g, 0, none⟩) 4 4) :=
  Own.flat (A := []) (xs := [a, b, c, d]) (cells := ic) (Own.all (cs := [_, _, _, _]) h rfl (by omega)) (by simp) (by simp [Value.oneCell']) rfl (by simp)
end Go.Proofs.Ythmohmpalbnjoaa.V

set_option linter.unusedVariables false
set_option linter.unusedSimpArgs false
set_option maxRecDepth 10000
namespace Go.Proofs.Ythmohmpalbnjoaa.V
open Go Go.Proofs
theorem sl68 : slB Try.prog 68 63 1 8 = true := by kernel_rfl
theorem sc63 : scB Try.prog 63 = true := by kernel_rfl
theorem ent67 : Ent Try.prog 67 := Ent.of Try.func67 (by kernel_rfl) (by kernel_rfl)
theorem ent92 : Ent Try.prog 92 := Ent.of Try.func92 (by kernel_rfl) (by kernel_rfl)
theorem sl140 : slB Try.prog 140 3 1 8 = true := by kernel_rfl
theorem fd66_1 : fdB Try.prog 66 1 1 3 = true := by kernel_rfl
theorem ent90 : Ent Try.prog 90 := Ent.of Try.func90 (by kernel_rfl) (by kernel_rfl)
theorem ent91 : Ent Try.prog 91 := Ent.of Try.func91 (by kernel_rfl) (by kernel_rfl)
theorem fd66_0 : fdB Try.prog 66 0 0 1 = true := by kernel_rfl
theorem zv3 : zvB Try.prog 3 ([.int .i64 0]) := by unfold zvB; kernel_rfl
theorem ent89 : Ent Try.prog 89 := Ent.of Try.func89 (by kernel_rfl) (by kernel_rfl)
theorem zv63 : zvB Try.prog 63 ([.pointer none]) := by unfold zvB; kernel_rfl
theorem sc68 : scB Try.prog 68 = true := by kernel_rfl
theorem c_isNaN (w : World) (a : Str) : Calls Try.prog 67 [S a].toArray w (Ret fun v w' => v = .bool false ∧ Mod [] w w') := by
  refine enter Try.func67 rfl rfl rfl (l := [(0, _)]) ⟨rfl, trivial⟩ ?_
  have E := Mod.refl [] w
  refine c_seq fun K1 hK1 => ?_
  refine c_region ?_
  refine sv (o_as rfl) rfl ?_
  refine l_nil ?_
  refine e_K (hK1 _ _ _ _ ?_)
  refine c_seq fun K2 hK2 => ?_
  refine c_region ?_
  refine sv (o_mv rfl) rfl ?_
  refine sv (o_mv rfl) rfl ?_
  refine sv (o_sne rfl rfl) rfl ?_
  refine sv (o_as rfl) rfl ?_
  refine l_nil ?_
  refine e_K (hK2 _ _ _ _ ?_)
  refine c_ret ?_
  exact ret1 rfl rfl ⟨by simp, E⟩

theorem c_isNaNi (w : World) (a : Int) : Calls Try.prog 92 [.int .i64 a].toArray w (Ret fun v w' => v = .bool false ∧ Mod [] w w') := by
  refine enter Try.func92 rfl rfl rfl (l := [(0, _)]) ⟨rfl, trivial⟩ ?_
  have E := Mod.refl [] w
  refine c_seq fun K1 hK1 => ?_
  refine c_region ?_
  refine sv (o_as rfl) rfl ?_
  refine l_nil ?_
  refine e_K (hK1 _ _ _ _ ?_)
  refine c_seq fun K2 hK2 => ?_
  refine c_region ?_
  refine sv (o_mv rfl) rfl ?_
  refine sv (o_mv rfl) rfl ?_
  refine sv (o_neq rfl rfl) rfl ?_
  refine sv (o_as rfl) rfl ?_
  refine l_nil ?_
  refine e_K (hK2 _ _ _ _ ?_)
  refine c_ret ?_
  exact ret1 rfl rfl ⟨by simp, E⟩

theorem c_scmp (w : World) (a b : Str) : Calls Try.prog 91 [S a, S b].toArray w (Ret fun v w' => v = .int .i64 (scmp a b) ∧ Mod [] w w') := by
  refine enter Try.func91 rfl rfl rfl (l := [(0, _), (1, _)]) ⟨rfl, rfl, trivial⟩ ?_
  have E := Mod.refl [] w
  refine c_seq fun K1 hK1 => ?_
  refine c_region ?_
  refine sv (o_as rfl) rfl ?_
  refine l_nil ?_
  refine e_K (hK1 _ _ _ _ ?_)
  refine c_seq fun K2 hK2 => ?_
  refine c_region ?_
  refine sv (o_mv rfl) rfl ?_
  refine sc (o_call ent67 rfl) (c_isNaN _ _) rfl fun v_ w1 h_ => ?_
  obtain ⟨rfl, E_⟩ := h_
  replace E := E.then E_
  refine sv (o_as rfl) rfl ?_
  refine l_nil ?_
  refine e_K (hK2 _ _ _ _ ?_)
  refine c_seq fun K3 hK3 => ?_
  refine c_region ?_
  refine sv (o_mv rfl) rfl ?_
  refine sc (o_call ent67 rfl) (c_isNaN _ _) rfl fun v_ w2 h_ => ?_
  obtain ⟨rfl, E_⟩ := h_
  replace E := E.then E_
  refine sv (o_as rfl) rfl ?_
  refine l_nil ?_
  refine e_K (hK3 _ _ _ _ ?_)
  refine c_seq fun K4 hK4 => ?_
  refine c_seq fun K5 hK5 => ?_
  refine c_region ?_
  refine sv (o_mv rfl) rfl ?_
  refine l_nil ?_
  refine e_K (hK5 _ _ _ _ ?_)
  refine c_false rfl ?_
  refine c_skip ?_
  refine e_K (hK4 _ _ _ _ ?_)
  refine c_seq fun K6 hK6 => ?_
  refine c_seq fun K7 hK7 => ?_
  refine c_region ?_
  refine sv (o_mv rfl) rfl ?_
  refine l_nil ?_
  refine e_K (hK7 _ _ _ _ ?_)
  refine c_false rfl ?_
  refine c_skip ?_
  refine e_K (hK6 _ _ _ _ ?_)
  refine c_seq fun K8 hK8 => ?_
  refine c_seq fun K9 hK9 => ?_
  refine c_region ?_
  refine sv (o_mv rfl) rfl ?_
  refine sv (o_mv rfl) rfl ?_
  refine sv (o_slt rfl rfl) rfl ?_
  refine l_nil ?_
  refine e_K (hK9 _ _ _ _ ?_)
  refine c_cond rfl (fun h16 => ?_) (fun h16 => ?_)
  · skip
    refine c_seq fun K10 hK10 => ?_
    refine c_region ?_
    refine sv (o_as rfl) rfl ?_
    refine l_nil ?_
    refine e_K (hK10 _ _ _ _ ?_)
    refine c_ret ?_
    refine e_then (by simp) ?_
    exact ret1 rfl rfl ⟨by simp [scmp, h16], E⟩
  · skip
    refine c_skip ?_
    refine e_K (hK8 _ _ _ _ ?_)
    refine c_seq fun K11 hK11 => ?_
    refine c_seq fun K12 hK12 => ?_
    refine c_region ?_
    refine sv (o_mv rfl) rfl ?_
    refine sv (o_mv rfl) rfl ?_
    refine sv (o_sgt rfl rfl) rfl ?_
    refine l_nil ?_
    refine e_K (hK12 _ _ _ _ ?_)
    refine c_cond rfl (fun h19 => ?_) (fun h19 => ?_)
    · skip
      refine c_seq fun K13 hK13 => ?_
      refine c_region ?_
      refine sv (o_as rfl) rfl ?_
      refine l_nil ?_
      refine e_K (hK13 _ _ _ _ ?_)
      refine c_ret ?_
      refine e_then (by simp) ?_
      exact ret1 rfl rfl ⟨by simp at h19; simp [scmp, h16, h19], E⟩
    · skip
      refine c_skip ?_
      refine e_K (hK11 _ _ _ _ ?_)
      refine c_seq fun K14 hK14 => ?_
      refine c_region ?_
      refine sv (o_as rfl) rfl ?_
      refine l_nil ?_
      refine e_K (hK14 _ _ _ _ ?_)
      refine c_ret ?_
      exact ret1 rfl rfl ⟨by simp [h16] at h19; simp [scmp, h19, bl_irrefl], E⟩

theorem c_icmp (w : World) (a b : Int) : Calls Try.prog 90 [.int .i64 a, .int .i64 b].toArray w (Ret fun v w' => v = .int .i64 (icmp a b) ∧ Mod [] w w') := by
  refine enter Try.func90 rfl rfl rfl (l := [(0, _), (1, _)]) ⟨rfl, rfl, trivial⟩ ?_
  have E := Mod.refl [] w
  refine c_seq fun K1 hK1 => ?_
  refine c_region ?_
  refine sv (o_as rfl) rfl ?_
  refine l_nil ?_
  refine e_K (hK1 _ _ _ _ ?_)
  refine c_seq fun K2 hK2 => ?_
  refine c_region ?_
  refine sv (o_mv rfl) rfl ?_
  refine sc (o_call ent92 rfl) (c_isNaNi _ _) rfl fun v_ w1 h_ => ?_
  obtain ⟨rfl, E_⟩ := h_
  replace E := E.then E_
  refine sv (o_as rfl) rfl ?_
  refine l_nil ?_
  refine e_K (hK2 _ _ _ _ ?_)
  refine c_seq fun K3 hK3 => ?_
  refine c_region ?_
  refine sv (o_mv rfl) rfl ?_
  refine sc (o_call ent92 rfl) (c_isNaNi _ _) rfl fun v_ w2 h_ => ?_
  obtain ⟨rfl, E_⟩ := h_
  replace E := E.then E_
  refine sv (o_as rfl) rfl ?_
  refine l_nil ?_
  refine e_K (hK3 _ _ _ _ ?_)
  refine c_seq fun K4 hK4 => ?_
  refine c_seq fun K5 hK5 => ?_
  refine c_region ?_
  refine sv (o_mv rfl) rfl ?_
  refine l_nil ?_
  refine e_K (hK5 _ _ _ _ ?_)
  refine c_false rfl ?_
  refine c_skip ?_
  refine e_K (hK4 _ _ _ _ ?_)
  refine c_seq fun K6 hK6 => ?_
  refine c_seq fun K7 hK7 => ?_
  refine c_region ?_
  refine sv (o_mv rfl) rfl ?_
  refine l_nil ?_
  refine e_K (hK7 _ _ _ _ ?_)
  refine c_false rfl ?_
  refine c_skip ?_
  refine e_K (hK6 _ _ _ _ ?_)
  refine c_seq fun K8 hK8 => ?_
  refine c_seq fun K9 hK9 => ?_
  refine c_region ?_
  refine sv (o_mv rfl) rfl ?_
  refine sv (o_mv rfl) rfl ?_
  refine sv (o_lss rfl rfl) rfl ?_
  refine l_nil ?_
  refine e_K (hK9 _ _ _ _ ?_)
  refine c_if rfl (fun h16 => ?_) (fun h16 => ?_)
  · skip
    refine c_seq fun K10 hK10 => ?_
    refine c_region ?_
    refine sv (o_as rfl) rfl ?_
    refine l_nil ?_
    refine e_K (hK10 _ _ _ _ ?_)
    refine c_ret ?_
    refine e_then (by simp) ?_
    exact ret1 rfl rfl ⟨by simp [icmp, h16], E⟩
  · skip
    refine c_skip ?_
    refine e_K (hK8 _ _ _ _ ?_)
    refine c_seq fun K11 hK11 => ?_
    refine c_seq fun K12 hK12 => ?_
    refine c_region ?_
    refine sv (o_mv rfl) rfl ?_
    refine sv (o_mv rfl) rfl ?_
    refine sv (o_gtr rfl rfl) rfl ?_
    refine l_nil ?_
    refine e_K (hK12 _ _ _ _ ?_)
    refine c_if rfl (fun h19 => ?_) (fun h19 => ?_)
    · skip
      refine c_seq fun K13 hK13 => ?_
      refine c_region ?_
      refine sv (o_as rfl) rfl ?_
      refine l_nil ?_
      refine e_K (hK13 _ _ _ _ ?_)
      refine c_ret ?_
      refine e_then (by simp) ?_
      exact ret1 rfl rfl ⟨by simp [icmp, h16, h19], E⟩
    · skip
      refine c_skip ?_
      refine e_K (hK11 _ _ _ _ ?_)
      refine c_seq fun K14 hK14 => ?_
      refine c_region ?_
      refine sv (o_as rfl) rfl ?_
      refine l_nil ?_
      refine e_K (hK14 _ _ _ _ ?_)
      refine c_ret ?_
      exact ret1 rfl rfl ⟨by simp [icmp, h16, h19], E⟩

theorem c_orI (A : List Nat) (w : World) (xs : List Int) (v : Value) (R : Rep A w (flat 1 ic xs) v) : Calls Try.prog 89 [v].toArray w (Ret fun u w' => u = .int .i64 (orI xs) ∧ Mod [] w w') := by
  refine enter Try.func89 rfl rfl rfl (l := [(0, _)]) ⟨rfl, trivial⟩ ?_
  have E := Mod.refl [] w
  obtain ⟨ad, c, rfl, hc1, hc2⟩ := flat_len R
  refine c_seq fun K1 hK1 => ?_
  refine c_region ?_
  refine sv (o_as rfl) rfl ?_
  refine l_nil ?_
  refine e_K (hK1 _ _ _ _ ?_)
  refine c_seq fun K2 hK2 => ?_
  refine c_region ?_
  refine sv (o_as rfl) rfl ?_
  refine l_nil ?_
  refine e_K (hK2 _ _ _ _ ?_)
  refine c_seq fun K3 hK3 => ?_
  refine c_seq fun K4 hK4 => ?_
  refine c_region ?_
  refine sv (o_mv rfl) rfl ?_
  refine sv (o_len Try.underlying140 rfl) rfl ?_
  refine sv (o_mv rfl) rfl ?_
  refine l_nil ?_
  refine e_K (hK4 _ _ _ _ ?_)
  refine c_block ?_
  refine c_loop (σ := Nat) (fun k => [(6, .slice ad xs.length c), (7, .int .i64 xs.length), (8, .int .i64 (k : Int)), (3, .int .i64 0)]) (fun k w1 => k ≤ xs.length ∧ orI xs = orI (xs.drop k) ∧ Mod [] w w1) (fun k => xs.length - k) (0) ⟨rfl, rfl, rfl, rfl, trivial⟩ (⟨by omega, by simp, E⟩) ?_
  rintro k w1 ⟨hk, ho, E⟩
  refine c_seq fun K5 hK5 => ?_
  refine c_region ?_
  refine sv (o_lss rfl rfl) rfl ?_
  refine l_nil ?_
  refine e_K (hK5 _ _ _ _ ?_)
  refine c_seq fun K6 hK6 => ?_
  refine c_if rfl (fun h9 => ?_) (fun h9 => ?_)
  · skip
    have hlt : k < xs.length := by omega
    obtain ⟨a, rfl, hcs, _⟩ := flat_at (R.to0 E) (List.getElem?_eq_getElem hlt)
    refine c_skip ?_
    refine e_K (hK6 _ _ _ _ ?_)
    refine c_seq fun K7 hK7 => ?_
    refine c_block ?_
    refine c_seq fun K8 hK8 => ?_
    refine c_region ?_
    refine sv (o_ix sl140 rfl rfl (by omega)) rfl ?_
    refine sv (o_ld sc3 rfl hcs.c0) rfl ?_
    refine sv (o_as rfl) rfl ?_
    refine l_nil ?_
    refine e_K (hK8 _ _ _ _ ?_)
    refine c_seq fun K9 hK9 => ?_
    refine c_region ?_
    refine sv (o_mv rfl) rfl ?_
    refine sv (o_mv rfl) rfl ?_
    refine sv (o_neq rfl rfl) rfl ?_
    refine l_nil ?_
    refine e_K (hK9 _ _ _ _ ?_)
    refine c_if rfl (fun h14 => ?_) (fun h14 => ?_)
    · skip
      refine c_seq fun K10 hK10 => ?_
      refine c_region ?_
      refine sv (o_mv rfl) rfl ?_
      refine sv (o_as rfl) rfl ?_
      refine l_nil ?_
      refine e_K (hK10 _ _ _ _ ?_)
      refine c_ret ?_
      refine e_in (by simp) ?_
      refine e_then (by simp) ?_
      refine e_then (by simp) ?_
      refine e_in (by simp) ?_
      refine e_then (by simp) ?_
      exact ret1 rfl rfl ⟨by rw [ho, List.drop_eq_getElem_cons hlt]; simp only [orI]; rw [if_pos h14], E⟩
    · skip
      refine c_skip ?_
      refine e_in (by simp) ?_
      refine e_K (hK7 _ _ _ _ ?_)
      refine c_region ?_
      refine sv (o_addN rfl rfl (by omega)) rfl ?_
      refine sv (o_mv rfl) rfl ?_
      refine l_nil ?_
      exact e_round (σ := Nat) (s := k) (k + 1) ⟨rfl, rfl, rfl, rfl, trivial⟩ ⟨by omega, by rw [ho, List.drop_eq_getElem_cons hlt]; simp only [orI]; rw [if_neg h14], E⟩ (by omega)
  · skip
    refine c_exit ?_
    refine e_then (by simp) ?_
    refine e_then (by simp) ?_
    refine e_hit ?_
    refine e_K (hK3 _ _ _ _ ?_)
    refine c_seq fun K11 hK11 => ?_
    refine c_region ?_
    refine sv (o_mv rfl) rfl ?_
    refine sv (o_as rfl) rfl ?_
    refine l_nil ?_
    refine e_K (hK11 _ _ _ _ ?_)
    refine c_ret ?_
    exact ret1 rfl rfl ⟨by rw [ho, List.drop_eq_nil_of_le (by omega)]; rfl, E⟩

theorem c_less (w : World) (I : Its) (hI : I.In 66 w) (hv : Value) (h : List Nat) (O : OwnR I 63 w hv h) (hn : ∀ x ∈ h, x < I.n) (i j : Nat) (hi : i < h.length) (hj : j < h.length) : Calls Try.prog 85 [hv, .int .i64 (i : Int), .int .i64 (j : Int)].toArray w (Ret fun u w' => u = .bool (I.lt (at0 h i) (at0 h j)) ∧ Mod [] w w') := by
  refine enter Try.func85 rfl rfl rfl (l := [(0, _), (1, _), (2, _)]) ⟨rfl, rfl, rfl, trivial⟩ ?_
  have E := Mod.refl [] w
  obtain ⟨ad, c, rfl, hc1, hc2⟩ := O.form
  obtain ⟨a0, rfl, hca⟩ := O.at_ hi
  obtain ⟨a1, ha1, hcb⟩ := O.at_ hj
  injection ha1 with ha1
  subst ha1
  have Bia := hI _ (hn _ (at_mem hi))
  have Bib := hI _ (hn _ (at_mem hj))
  refine c_seq fun K1 hK1 => ?_
  refine c_region ?_
  refine sv (o_as rfl) rfl ?_
  refine l_nil ?_
  refine e_K (hK1 _ _ _ _ ?_)
  refine c_seq fun K2 hK2 => ?_
  refine c_draw wide (by kernel_rfl) ?_
  refine tv (fun w_ E_ => (o_mv rfl)) rfl rfl ?_
  refine tv (fun w_ E_ => (o_mv rfl)) rfl rfl ?_
  refine tv (fun w_ E_ => (o_ix sl68 rfl rfl (by omega))) rfl rfl ?_
  refine tv (fun w_ E_ => (o_ld sc63 rfl (cell_mod0 hca (E.then E_)))) rfl rfl ?_
  refine tv (fun w_ E_ => (o_mv rfl)) rfl rfl ?_
  refine tv (fun w_ E_ => (o_mv rfl)) rfl rfl ?_
  refine tv (fun w_ E_ => (o_ix sl68 rfl rfl (by omega))) rfl rfl ?_
  refine tv (fun w_ E_ => (o_ld sc63 rfl (cell_mod0 hcb (E.then E_)))) rfl rfl ?_
  refine tv (fun w_ E_ => (o_as rfl)) rfl rfl ?_
  refine tv (fun w_ E_ => (o_as rfl)) rfl rfl ?_
  refine tw_nil rfl fun w1 E_ => ?_
  replace Bia := Bia.mod0 E_
  replace Bib := Bib.mod0 E_
  replace E := E.then E_
  refine e_K (hK2 _ _ _ _ ?_)
  refine c_seq fun K3 hK3 => ?_
  refine c_drawp [] [0, 1, 2, 3, 4, 5, 6, 7, 8, 9, 10, 11, 12, 13, 14, 15, 16, 17, 18, 19, 20, 21, 22, 23, 24, 25, 26, 27, 28, 29, 30, 31, 32, 33, 34, 35, 36, 37, 38, 39, 40, 41] 42 [43, 44, 45] wide (by kernel_rfl) (fun _ _ _ h => h.2) ?_
  refine pw_nil ?_
  refine tv (fun w_ E_ => (o_mv rfl)) rfl rfl ?_
  refine tv (fun w_ E_ => (o_nilc rfl)) rfl rfl ?_
  refine tv (fun w_ E_ => (o_fa0 fd66_1 rfl)) rfl rfl ?_
  refine tv (fun w_ E_ => (o_fa fd44_0 rfl)) rfl rfl ?_
  refine tv (fun w_ E_ => (o_ld sc3 rfl ((Bia.mod0 E_).cell rfl))) rfl rfl ?_
  refine tv (fun w_ E_ => (o_mv rfl)) rfl rfl ?_
  refine tv (fun w_ E_ => (o_nilc rfl)) rfl rfl ?_
  refine tv (fun w_ E_ => (o_fa0 fd66_1 rfl)) rfl rfl ?_
  refine tv (fun w_ E_ => (o_fa fd44_0 rfl)) rfl rfl ?_
  refine tv (fun w_ E_ => (o_ld sc3 rfl ((Bib.mod0 E_).cell rfl))) rfl rfl ?_
  refine tc (fun w_ E_ => o_call ent90 rfl) (fun w_ E_ => c_icmp _ _ _) rfl rfl ?_
  refine tv (fun w_ E_ => (o_mv rfl)) rfl rfl ?_
  refine tv (fun w_ E_ => (o_nilc rfl)) rfl rfl ?_
  refine tv (fun w_ E_ => (o_fa0 fd66_1 rfl)) rfl rfl ?_
  refine tv (fun w_ E_ => (o_fa fd44_1 rfl)) rfl rfl ?_
  refine tv (fun w_ E_ => (o_ld sc3 rfl ((Bia.mod0 E_).cell rfl))) rfl rfl ?_
  refine tv (fun w_ E_ => (o_mv rfl)) rfl rfl ?_
  refine tv (fun w_ E_ => (o_nilc rfl)) rfl rfl ?_
  refine tv (fun w_ E_ => (o_fa0 fd66_1 rfl)) rfl rfl ?_
  refine tv (fun w_ E_ => (o_fa fd44_1 rfl)) rfl rfl ?_
  refine tv (fun w_ E_ => (o_ld sc3 rfl ((Bib.mod0 E_).cell rfl))) rfl rfl ?_
  refine tc (fun w_ E_ => o_call ent90 rfl) (fun w_ E_ => c_icmp _ _ _) rfl rfl ?_
  refine tv (fun w_ E_ => (o_mv rfl)) rfl rfl ?_
  refine tv (fun w_ E_ => (o_nilc rfl)) rfl rfl ?_
  refine tv (fun w_ E_ => (o_fa0 fd66_1 rfl)) rfl rfl ?_
  refine tv (fun w_ E_ => (o_fa fd44_2 rfl)) rfl rfl ?_
  refine tv (fun w_ E_ => (o_ld sc9 rfl ((Bia.mod0 E_).cell rfl))) rfl rfl ?_
  refine tv (fun w_ E_ => (o_mv rfl)) rfl rfl ?_
  refine tv (fun w_ E_ => (o_nilc rfl)) rfl rfl ?_
  refine tv (fun w_ E_ => (o_fa0 fd66_1 rfl)) rfl rfl ?_
  refine tv (fun w_ E_ => (o_fa fd44_2 rfl)) rfl rfl ?_
  refine tv (fun w_ E_ => (o_ld sc9 rfl ((Bib.mod0 E_).cell rfl))) rfl rfl ?_
  refine tc (fun w_ E_ => o_call ent91 rfl) (fun w_ E_ => c_scmp _ _ _) rfl rfl ?_
  refine tv (fun w_ E_ => (o_mv rfl)) rfl rfl ?_
  refine tv (fun w_ E_ => (o_nilc rfl)) rfl rfl ?_
  refine tv (fun w_ E_ => (o_fa0 fd66_0 rfl)) rfl rfl ?_
  refine tv (fun w_ E_ => (o_ld sc9 rfl ((Bia.mod0 E_).cell rfl))) rfl rfl ?_
  refine tv (fun w_ E_ => (o_mv rfl)) rfl rfl ?_
  refine tv (fun w_ E_ => (o_nilc rfl)) rfl rfl ?_
  refine tv (fun w_ E_ => (o_fa0 fd66_0 rfl)) rfl rfl ?_
  refine tv (fun w_ E_ => (o_ld sc9 rfl ((Bib.mod0 E_).cell rfl))) rfl rfl ?_
  refine tc (fun w_ E_ => o_call ent91 rfl) (fun w_ E_ => c_scmp _ _ _) rfl rfl ?_
  refine tw_tail rfl fun w2 E_ => ?_
  replace Bia := Bia.mod0 E_
  replace Bib := Bib.mod0 E_
  replace E := E.then E_
  refine s_bslice (cs := [_, _, _, _]) sl140 zv3 rfl rfl rfl (by decide) rfl fun g1 w3 N1 => ?_
  have Lg1_E := N1.le E
  have Dia_g1 := N1.ne Bia
  have Dib_g1 := N1.ne Bib
  replace Bia := Bia.mod0 N1.mod
  replace Bib := Bib.mod0 N1.mod
  replace E := E.then N1.mod
  have Bg1 := N1.blk
  refine sc (o_call ent89 rfl) (c_orI [] _ _ _ (rk_flat Bg1)) rfl fun v_ w4 h_ => ?_
  obtain ⟨rfl, E_⟩ := h_
  replace Bia := Bia.mod0 E_
  replace Bib := Bib.mod0 E_
  replace Bg1 := Bg1.mod0 E_
  replace E := E.then E_
  refine sv (o_lss rfl rfl) rfl ?_
  refine sv (o_as rfl) rfl ?_
  refine l_nil ?_
  refine e_K (hK3 _ _ _ _ ?_)
  refine c_ret ?_
  exact ret1 rfl rfl ⟨congrArg Value.bool (rlt_or _ _ _ _), E⟩

theorem c_swap (w : World) (I : Its) (hv : Value) (h : List Nat) (O : OwnR I 63 w hv h) (i j : Nat) (hi : i < h.length) (hj : j < h.length) : Calls Try.prog 88 [hv, .int .i64 (i : Int), .int .i64 (j : Int)].toArray w (Ret fun u w' => OwnR I 63 w' hv (swp h i j) ∧ Mod (ob hv) w w') := by
  refine enter Try.func88 rfl rfl rfl (l := [(0, _), (1, _), (2, _)]) ⟨rfl, rfl, rfl, trivial⟩ ?_
  have E := Mod.refl [] w
  obtain ⟨ad, c, rfl, hc1, hc2⟩ := O.form
  obtain ⟨a0, rfl, hca⟩ := O.at_ hi
  obtain ⟨a1, ha1, hcb⟩ := O.at_ hj
  injection ha1 with ha1
  subst ha1
  refine c_drawp [2, 3] [0, 1, 4, 5, 6, 7, 8, 9, 10, 11, 12] 13 [14, 15] wide (by kernel_rfl) (fun _ _ _ h => h.2) ?_
  refine pw (fun _ => (o_mv rfl)) rfl rfl ?_
  refine pw (fun _ => (o_mv rfl)) rfl rfl ?_
  refine pw_nil ?_
  refine tv (fun w_ E_ => (o_mv rfl)) rfl rfl ?_
  refine tv (fun w_ E_ => (o_mv rfl)) rfl rfl ?_
  refine tv (fun w_ E_ => (o_mv rfl)) rfl rfl ?_
  refine tv (fun w_ E_ => (o_mv rfl)) rfl rfl ?_
  refine tv (fun w_ E_ => (o_ix sl68 rfl rfl (by omega))) rfl rfl ?_
  refine tv (fun w_ E_ => (o_ld sc63 rfl (cell_mod0 hcb (E.then E_)))) rfl rfl ?_
  refine tv (fun w_ E_ => (o_mv rfl)) rfl rfl ?_
  refine tv (fun w_ E_ => (o_mv rfl)) rfl rfl ?_
  refine tv (fun w_ E_ => (o_ix sl68 rfl rfl (by omega))) rfl rfl ?_
  refine tv (fun w_ E_ => (o_ld sc63 rfl (cell_mod0 hca (E.then E_)))) rfl rfl ?_
  refine tv (fun w_ E_ => (o_ix sl68 rfl rfl (by omega))) rfl rfl ?_
  refine tw_tail rfl fun w1 E_ => ?_
  replace E := E.then E_
  refine s_stw1 sc63 (O.mod0 E) rfl rfl rfl (i := i) (by omega) fun wS OS ES _ => ?_
  replace E := (E.mono (N := ob (.slice (some a0) h.length c)) (by simp)).trans' ES (fun x hx => .inl (by simpa [ob] using hx))
  refine sv (o_ix sl68 rfl rfl (by omega)) rfl ?_
  refine s_stw1 sc63 OS rfl rfl rfl (i := j) (by omega) fun wT OT ET _ => ?_
  replace E := E.trans' ET (fun x hx => .inl (by simpa [ob] using hx))
  refine l_nil ?_
  exact end0 rfl ⟨OwnR.swp OT rfl, E⟩

theorem c_lenR (w : World) (I : Its) (hv : Value) (h : List Nat) (O : OwnR I 63 w hv h) : Calls Try.prog 31 [hv].toArray w (Ret fun u w' => u = .int .i64 h.length ∧ Mod [] w w') := by
  refine enter Try.func31 rfl rfl rfl (l := [(0, _)]) ⟨rfl, trivial⟩ ?_
  have E := Mod.refl [] w
  obtain ⟨ad, c, rfl, hc1, hc2⟩ := O.form
  refine c_seq fun K1 hK1 => ?_
  refine c_region ?_
  refine sv (o_as rfl) rfl ?_
  refine l_nil ?_
  refine e_K (hK1 _ _ _ _ ?_)
  refine c_seq fun K2 hK2 => ?_
  refine c_region ?_
  refine sv (o_mv rfl) rfl ?_
  refine sv (o_len Try.underlying68 rfl) rfl ?_
  refine sv (o_as rfl) rfl ?_
  refine l_nil ?_
  refine e_K (hK2 _ _ _ _ ?_)
  refine c_ret ?_
  exact ret1 rfl rfl ⟨rfl, E⟩

theorem c_pushR (w : World) (I : Its) (gr : Nat) (hv : Value) (h : List Nat) (Br : Blk w gr 68 [hv]) (O : OwnR I 63 w hv h) (x : Nat) (hl : h.length ≤ 1000000) : Calls Try.prog 87 [.pointer (some ⟨gr, 0, none⟩), .iface 63 (I.pv x)].toArray w (Ret fun u w' => ∃ hv', Blk w' gr 68 [hv'] ∧ OwnR I 63 w' hv' (h ++ [x]) ∧ (∀ y ∈ ob hv', y ∈ ob hv ∨ w.heap.size ≤ y) ∧ Mod (gr :: ob hv) w w') := by
  refine enter Try.func87 rfl rfl rfl (l := [(0, _), (1, _)]) ⟨rfl, rfl, trivial⟩ ?_
  have E := Mod.refl [] w
  obtain ⟨hv0, ehv⟩ : ∃ u, u = hv := ⟨_, rfl⟩
  rw [← ehv]
  obtain ⟨ad, c, rfl, hc1, hc2⟩ := O.form
  refine c_drawp [0] [1, 2, 3, 4, 5, 6] 7 [8, 9] wide (by kernel_rfl) (fun _ _ _ h => h.2) ?_
  refine pw (fun _ => (o_mv rfl)) rfl rfl ?_
  refine pw_nil ?_
  refine tv (fun w_ E_ => (o_mv rfl)) rfl rfl ?_
  refine tv (fun w_ E_ => (o_nilc rfl)) rfl rfl ?_
  refine tv (fun w_ E_ => (o_ld sc68 rfl ((Br.mod0 E_).cell rfl))) rfl rfl ?_
  refine tv (fun w_ E_ => (o_mv rfl)) rfl rfl ?_
  refine tv (fun w_ E_ => ((o_taN Try.underlying63 rfl rfl))) rfl rfl ?_
  refine t_bslice (cs := [_]) (fun u w_ => Own w_ 63 1 u 1 [I.pv x]) (fun v_ w1_ w2_ k_ h_ => h_.mod0 k_) sl68 zv63 rfl rfl rfl (by decide) (fun w_ g w2_ E_ N_ => Own.all (c := 1) N_.blk rfl (by omega)) rfl rfl ?_
  refine tw_tail1 (t := 10) rfl rfl rfl rfl fun w1 v_ E_ OX => ?_
  replace Br := Br.mod0 E_
  replace E := E.then E_
  refine s_append sl68 rfl rfl (O.mod0 E) (Src.own Try.underlying68 OX (by simp [Value.oneCell'])) (by decide) (by omega) (by omega) rfl fun hv2 w2 AX => ?_
  have hgr := Own.neT (O.mod0 E) Br (by decide)
  have E0 := E.size
  replace Br := Br.mod AX.mod (fun hx => hgr _ hx rfl)
  replace E := (E.mono (N := gr :: ob hv0) (by simp)).trans' AX.mod (fun x hx => .inl (by rw [ehv]; simp [hx]))
  refine sv (o_nilc rfl) rfl ?_
  refine s_st sc68 Br rfl rfl (by obtain ⟨_, _, e_, _⟩ := AX.own.form; subst e_; rfl) (by simp) fun wZ PZ => ?_
  have hn2 := Own.neT AX.own Br (by decide)
  have O2 : OwnR I 63 wZ hv2 (h ++ [x]) := Own.same (AX.own.mod PZ.mod (fun y hy hz => hn2 y hy (by simpa using hz))) (by simp) (by simp)
  have Br2 := PZ.blk
  replace E := E.trans' PZ.mod (fun y hy => .inl (by simp at hy; simp [hy]))
  refine l_nil ?_
  exact end0 rfl ⟨hv2, Br2, O2, fun y hy => (AX.ob_ y hy).imp (fun h => by rw [ehv]; exact h) (fun h => Nat.le_trans E0 h), E⟩
end Go.Proofs.Ythmohmpalbnjoaa.V
