/-
  A part of the proof: the order of names, one by one, in plain Lean: the least of those that may come next. No condition of its own.
-/
import Derived.Test.YthmohmpalbnjoaaM11
set_option linter.unusedVariables false
set_option linter.unusedSimpArgs false
set_option maxRecDepth 10000
namespace Go.Proofs.Ythmohmpalbnjoaa.V
open Go Go.Proofs
theorem mthLess : mthB Try.prog 67 "Less" 85 false = true := by kernel_rfl
theorem ent85 : Ent Try.prog 85 := Ent.of Try.func85 (by kernel_rfl) (by kernel_rfl)
theorem mthSwap : mthB Try.prog 67 "Swap" 88 false = true := by kernel_rfl
theorem ent88 : Ent Try.prog 88 := Ent.of Try.func88 (by kernel_rfl) (by kernel_rfl)
theorem c_popR (w : World) (I : Its) (gr : Nat) (hv : Value) (h : List Nat) (Br : Blk w gr 68 [hv]) (O : OwnR I 63 w hv h) (hl : 0 < h.length) : Calls Try.prog 86 [.pointer (some ⟨gr, 0, none⟩)].toArray w (Ret fun u w' => u = .iface 63 (I.pv (at0 h (h.length - 1))) ∧ ∃ hv', Blk w' gr 68 [hv'] ∧ OwnR I 63 w' hv' (h.take (h.length - 1)) ∧ ob hv' = ob hv ∧ Mod [gr] w w') := by
  refine enter Try.func86 rfl rfl rfl (l := [(0, _)]) ⟨rfl, trivial⟩ ?_
  have E := Mod.refl [] w
  obtain ⟨ad, c, rfl, hc1, hc2⟩ := O.form
  obtain ⟨a0, rfl, hca⟩ := O.at_ (i := h.length - 1) (by omega)
  refine c_seq fun K1 hK1 => ?_
  refine c_region ?_
  refine sv (o_as rfl) rfl ?_
  refine l_nil ?_
  refine e_K (hK1 _ _ _ _ ?_)
  refine c_seq fun K2 hK2 => ?_
  refine c_draw wide (by kernel_rfl) ?_
  refine tv (fun w_ E_ => (o_mv rfl)) rfl rfl ?_
  refine tv (fun w_ E_ => (o_nilc rfl)) rfl rfl ?_
  refine tv (fun w_ E_ => (o_ld sc68 rfl ((Br.mod0 E_).cell rfl))) rfl rfl ?_
  refine tv (fun w_ E_ => (o_mv rfl)) rfl rfl ?_
  refine tv (fun w_ E_ => (o_nilc rfl)) rfl rfl ?_
  refine tv (fun w_ E_ => (o_ld sc68 rfl ((Br.mod0 E_).cell rfl))) rfl rfl ?_
  refine tv (fun w_ E_ => (o_len Try.underlying68 rfl)) rfl rfl ?_
  refine tv (fun w_ E_ => (o_subE (r := ((h.length - 1 : Nat) : Int)) rfl rfl (by rw [wrap64_in _ (by omega)]; omega))) rfl rfl ?_
  refine tv (fun w_ E_ => (o_ix sl68 rfl rfl (by omega))) rfl rfl ?_
  refine tv (fun w_ E_ => (o_ld sc63 rfl (cell_mod0 hca (E.then E_)))) rfl rfl ?_
  refine tv (fun w_ E_ => (o_as rfl)) rfl rfl ?_
  refine tw_nil rfl fun w1 E_ => ?_
  replace Br := Br.mod0 E_
  replace E := E.then E_
  refine e_K (hK2 _ _ _ _ ?_)
  refine c_seq fun K3 hK3 => ?_
  refine c_drawp [] [0, 1, 2, 3, 4, 5, 6, 7, 8, 9, 10] 11 [] wide (by kernel_rfl) (fun _ _ _ h => h.2) ?_
  refine pw_nil ?_
  refine tv (fun w_ E_ => (o_mv rfl)) rfl rfl ?_
  refine tv (fun w_ E_ => (o_mv rfl)) rfl rfl ?_
  refine tv (fun w_ E_ => (o_nilc rfl)) rfl rfl ?_
  refine tv (fun w_ E_ => (o_ld sc68 rfl ((Br.mod0 E_).cell rfl))) rfl rfl ?_
  refine tv (fun w_ E_ => (o_mv rfl)) rfl rfl ?_
  refine tv (fun w_ E_ => (o_nilc rfl)) rfl rfl ?_
  refine tv (fun w_ E_ => (o_ld sc68 rfl ((Br.mod0 E_).cell rfl))) rfl rfl ?_
  refine tv (fun w_ E_ => (o_len Try.underlying68 rfl)) rfl rfl ?_
  refine tv (fun w_ E_ => (o_subE (r := ((h.length - 1 : Nat) : Int)) rfl rfl (by rw [wrap64_in _ (by omega)]; omega))) rfl rfl ?_
  refine tv (fun w_ E_ => (o_slto sl68 rfl rfl (by omega) (by omega))) rfl rfl ?_
  refine tv (fun w_ E_ => (o_nilc rfl)) rfl rfl ?_
  refine tw_tail rfl fun w2 E_ => ?_
  replace Br := Br.mod0 E_
  replace E := E.then E_
  have O2 := OwnR.take_ (O.mod0 E) hl
  refine s_st sc68 Br rfl rfl rfl (by simp) fun wZ PZ => ?_
  have hn2 := Own.neT O2 Br (by decide)
  have O3 : OwnR I 63 wZ (.slice (some a0) (h.length - 1) c) (h.take (h.length - 1)) := O2.mod PZ.mod (fun y hy hz => hn2 y hy (by simpa using hz))
  have Br2 := PZ.blk
  replace E := (E.mono (N := [gr]) (by simp)).trans' PZ.mod (fun y hy => .inl hy)
  refine l_nil ?_
  refine e_K (hK3 _ _ _ _ ?_)
  refine c_seq fun K4 hK4 => ?_
  refine c_region ?_
  refine sv (o_mv rfl) rfl ?_
  refine sv (o_mki Try.underlying63 rfl rfl) rfl ?_
  refine sv (o_as rfl) rfl ?_
  refine l_nil ?_
  refine e_K (hK4 _ _ _ _ ?_)
  refine c_ret ?_
  exact ret1 rfl rfl ⟨rfl, _, Br2, O3, rfl, E⟩

theorem c_up (w : World) (I : Its) (gr : Nat) (hv : Value) (h : List Nat) (Br : Blk w gr 68 [hv]) (O : OwnR I 63 w hv h) (hI : I.In 66 w) (hn : ∀ x ∈ h, x < I.n) (SS : SO I.lt I.n) (j : Nat) (hj : j < h.length) (UU : UpI I.lt h j) (hl : h.length ≤ 1000000) : Calls Try.prog 42 [.iface 67 (.pointer (some ⟨gr, 0, none⟩)), .int .i64 (j : Int)].toArray w (Ret fun u w' => ∃ hh, hh.Perm h ∧ Heap I.lt hh hh.length ∧ OwnR I 63 w' hv hh ∧ Mod (ob hv) w w') := by
  refine enter Try.func42 rfl rfl rfl (l := [(0, _), (1, _)]) ⟨rfl, rfl, trivial⟩ ?_
  have E := Mod.refl [] w
  replace E := E.mono (N := ob hv) (by simp)
  refine c_block ?_
  refine c_loop (σ := Nat × List Nat) (fun ⟨k, hh⟩ => [(0, .iface 67 (.pointer (some ⟨gr, 0, none⟩))), (1, .int .i64 (k : Int))]) (fun ⟨k, hh⟩ w1 => k < hh.length ∧ UpI I.lt hh k ∧ hh.Perm h ∧ OwnR I 63 w1 hv hh ∧ I.In 66 w1 ∧ Blk w1 gr 68 [hv] ∧ Mod (ob hv) w w1) (fun ⟨k, hh⟩ => k) (⟨j, h⟩) ⟨rfl, rfl, trivial⟩ (⟨hj, UU, List.Perm.refl _, O, hI, Br, E⟩) ?_
  rintro ⟨k, hh⟩ w1 ⟨hk, UU, hp, OH, HI, Br, E⟩
  have hnh : ∀ x ∈ hh, x < I.n := fun x hx => hn x (hp.mem_iff.1 hx)
  have hll := hp.length_eq
  refine c_block ?_
  refine c_seq fun K1 hK1 => ?_
  refine c_region ?_
  refine sv (o_mv rfl) rfl ?_
  refine sv ((o_sub rfl rfl).to (by rw [wrap64_in _ (by omega)])) rfl ?_
  refine sv ((o_quo rfl rfl (by omega)).to (v' := .int .i64 (((k - 1) / 2 : Nat) : Int)) (half_of k (by omega))) rfl ?_
  refine sv (o_as rfl) rfl ?_
  refine l_nil ?_
  refine e_K (hK1 _ _ _ _ ?_)
  refine c_seq fun K2 hK2 => ?_
  refine c_seq fun K3 hK3 => ?_
  by_cases hk0 : ((((k - 1) / 2 : Nat) : Int) = (k : Int))
  · skip
    refine c_region ?_
    refine sv (o_mv rfl) rfl ?_
    refine sv (o_mv rfl) rfl ?_
    refine sv (o_eql rfl rfl) rfl ?_
    refine sv (o_mv rfl) rfl ?_
    refine sn rfl (fun e_ => absurd ((decide_eq_true hk0).symm.trans e_) (by decide)) rfl ?_
    refine sn rfl (fun e_ => absurd ((decide_eq_true hk0).symm.trans e_) (by decide)) rfl ?_
    refine sn rfl (fun e_ => absurd ((decide_eq_true hk0).symm.trans e_) (by decide)) rfl ?_
    refine sn rfl (fun e_ => absurd ((decide_eq_true hk0).symm.trans e_) (by decide)) rfl ?_
    refine sn rfl (fun e_ => absurd ((decide_eq_true hk0).symm.trans e_) (by decide)) rfl ?_
    refine sv (o_pickT (decide_eq_true hk0) rfl rfl) rfl ?_
    refine l_nil ?_
    refine e_K (hK3 _ _ _ _ ?_)
    refine c_true rfl ?_
    refine c_exit ?_
    refine e_then (by simp) ?_
    refine e_miss rfl ?_
    refine e_then (by simp) ?_
    refine e_hit ?_
    exact end0 rfl ⟨hh, hp, UU.done (.inl (by omega)), OH, E⟩
  · skip
    by_cases hb15 : I.lt (at0 hh k) (at0 hh ((k - 1) / 2)) = true
    · skip
      refine c_region ?_
      refine sv (o_mv rfl) rfl ?_
      refine sv (o_mv rfl) rfl ?_
      refine sv (o_eql rfl rfl) rfl ?_
      refine sv (o_mv rfl) rfl ?_
      refine sg rfl (decide_eq_false hk0) (o_mv rfl) rfl ?_
      refine sg rfl (decide_eq_false hk0) (o_mv rfl) rfl ?_
      refine sg rfl (decide_eq_false hk0) (o_mv rfl) rfl ?_
      refine sgc rfl (decide_eq_false hk0) (o_inv ent85 (run_method_val mthLess Try.underlying67 (run_loadVar_sc sc68 (Br.cell (i := 0) rfl))) rfl rfl) (c_less _ I HI hv hh OH hnh k ((k - 1) / 2) hk (by omega)) rfl fun v_ w2 h_ => ?_
      obtain ⟨rfl, E_⟩ := h_
      replace OH := OH.mod0 E_
      replace HI := HI.mod0 E_
      replace Br := Br.mod0 E_
      replace E := E.then E_
      refine sg rfl (decide_eq_false hk0) (o_not rfl) rfl ?_
      refine sv (o_pickF (decide_eq_false hk0) rfl rfl) rfl ?_
      refine l_nil ?_
      refine e_K (hK3 _ _ _ _ ?_)
      refine c_cond rfl (fun h17 => absurd (((show (!I.lt (at0 hh k) (at0 hh ((k - 1) / 2))) = false by rw [hb15]; rfl)).symm.trans h17) (by decide)) (fun h17 => ?_)
      refine c_skip ?_
      refine e_K (hK2 _ _ _ _ ?_)
      refine c_seq fun K4 hK4 => ?_
      refine c_region ?_
      refine sv (o_mv rfl) rfl ?_
      refine sv (o_mv rfl) rfl ?_
      refine sv (o_mv rfl) rfl ?_
      refine sc (o_inv ent88 (run_method_val mthSwap Try.underlying67 (run_loadVar_sc sc68 (Br.cell (i := 0) rfl))) rfl rfl) (c_swap _ I hv hh OH ((k - 1) / 2) k (by omega) hk) rfl fun v_ w3 h_ => ?_
      obtain ⟨OS_, ES_⟩ := h_
      replace HI := HI.mod ES_ (fun i hi hx => Own.neT OH (HI i hi) (by decide) _ hx rfl)
      replace Br := Br.mod ES_ (fun hx => Own.neT OH Br (by decide) _ hx rfl)
      replace E := E.trans ES_
      refine l_nil ?_
      refine e_K (hK4 _ _ _ _ ?_)
      refine c_region ?_
      refine sv (o_mv rfl) rfl ?_
      refine sv (o_as rfl) rfl ?_
      refine l_nil ?_
      refine e_in (by simp) ?_
      exact e_round (σ := Nat × List Nat) (s := ⟨k, hh⟩) (⟨(k - 1) / 2, swp hh ((k - 1) / 2) k⟩) ⟨rfl, rfl, trivial⟩ ⟨by rw [swp_len]; omega, UpI.step SS hnh UU hk (by omega) hb15, (swp_perm (by omega) hk).trans hp, OS_, HI, Br, E⟩ (by dsimp only; omega)
    · skip
      refine c_region ?_
      refine sv (o_mv rfl) rfl ?_
      refine sv (o_mv rfl) rfl ?_
      refine sv (o_eql rfl rfl) rfl ?_
      refine sv (o_mv rfl) rfl ?_
      refine sg rfl (decide_eq_false hk0) (o_mv rfl) rfl ?_
      refine sg rfl (decide_eq_false hk0) (o_mv rfl) rfl ?_
      refine sg rfl (decide_eq_false hk0) (o_mv rfl) rfl ?_
      refine sgc rfl (decide_eq_false hk0) (o_inv ent85 (run_method_val mthLess Try.underlying67 (run_loadVar_sc sc68 (Br.cell (i := 0) rfl))) rfl rfl) (c_less _ I HI hv hh OH hnh k ((k - 1) / 2) hk (by omega)) rfl fun v_ w4 h_ => ?_
      obtain ⟨rfl, E_⟩ := h_
      replace OH := OH.mod0 E_
      replace HI := HI.mod0 E_
      replace Br := Br.mod0 E_
      replace E := E.then E_
      refine sg rfl (decide_eq_false hk0) (o_not rfl) rfl ?_
      refine sv (o_pickF (decide_eq_false hk0) rfl rfl) rfl ?_
      refine l_nil ?_
      refine e_K (hK3 _ _ _ _ ?_)
      refine c_cond rfl (fun h17 => ?_) (fun h17 => absurd (((show (!I.lt (at0 hh k) (at0 hh ((k - 1) / 2))) = true by rw [Bool.eq_false_iff.2 hb15]; rfl)).symm.trans h17) (by decide))
      refine c_exit ?_
      refine e_then (by simp) ?_
      refine e_miss rfl ?_
      refine e_then (by simp) ?_
      refine e_hit ?_
      exact end0 rfl ⟨hh, hp, UU.done (.inr (Bool.eq_false_iff.2 hb15)), OH, E⟩

theorem c_down (w : World) (I : Its) (gr : Nat) (hv : Value) (h : List Nat) (Br : Blk w gr 68 [hv]) (O : OwnR I 63 w hv h) (hI : I.In 66 w) (hn : ∀ x ∈ h, x < I.n) (SS : SO I.lt I.n) (m : Nat) (hm : m ≤ h.length) (DD : DnI I.lt h m 0) (hl : h.length ≤ 1000000) : Calls Try.prog 43 [.iface 67 (.pointer (some ⟨gr, 0, none⟩)), .int .i64 0, .int .i64 (m : Int)].toArray w (Ret fun u w' => ∃ hh, hh.Perm h ∧ Heap I.lt hh m ∧ (∀ k, m ≤ k → at0 hh k = at0 h k) ∧ OwnR I 63 w' hv hh ∧ Mod (ob hv) w w') := by
  refine enter Try.func43 rfl rfl rfl (l := [(0, _), (1, _), (2, _)]) ⟨rfl, rfl, rfl, trivial⟩ ?_
  have E := Mod.refl [] w
  replace E := E.mono (N := ob hv) (by simp)
  refine c_seq fun K1 hK1 => ?_
  refine c_region ?_
  refine sv (o_as rfl) rfl ?_
  refine l_nil ?_
  refine e_K (hK1 _ _ _ _ ?_)
  refine c_seq fun K2 hK2 => ?_
  refine c_region ?_
  refine sv (o_mv rfl) rfl ?_
  refine sv (o_as rfl) rfl ?_
  refine l_nil ?_
  refine e_K (hK2 _ _ _ _ ?_)
  refine c_seq fun K3 hK3 => ?_
  refine c_block ?_
  refine c_loop (σ := Nat × List Nat) (fun ⟨i, hh⟩ => [(0, .iface 67 (.pointer (some ⟨gr, 0, none⟩))), (1, .int .i64 0), (2, .int .i64 (m : Int)), (7, .int .i64 (i : Int))]) (fun ⟨i, hh⟩ w1 => i ≤ m ∧ (∀ k, m ≤ k → at0 hh k = at0 h k) ∧ DnI I.lt hh m i ∧ hh.Perm h ∧ OwnR I 63 w1 hv hh ∧ I.In 66 w1 ∧ Blk w1 gr 68 [hv] ∧ Mod (ob hv) w w1) (fun ⟨i, hh⟩ => m - i) (⟨0, h⟩) ⟨rfl, rfl, rfl, rfl, trivial⟩ (⟨by omega, fun _ _ => rfl, DD, List.Perm.refl _, O, hI, Br, E⟩) ?_
  rintro ⟨i, hh⟩ w1 ⟨hk, hsame, DD, hp, OH, HI, Br, E⟩
  have hnh : ∀ x ∈ hh, x < I.n := fun x hx => hn x (hp.mem_iff.1 hx)
  have hll := hp.length_eq
  refine c_block ?_
  refine c_seq fun K4 hK4 => ?_
  refine c_region ?_
  refine sv (o_mv rfl) rfl ?_
  refine sv (o_mulN rfl rfl (by omega)) rfl ?_
  refine sv ((o_addN rfl rfl (by omega)).to (v' := .int .i64 ((2 * i + 1 : Nat) : Int)) (by first | rfl | (congr 1; omega))) rfl ?_
  refine sv (o_as rfl) rfl ?_
  refine l_nil ?_
  refine e_K (hK4 _ _ _ _ ?_)
  refine c_seq fun K5 hK5 => ?_
  refine c_seq fun K6 hK6 => ?_
  by_cases hk17 : ((m : Int) ≤ ((2 * i + 1 : Nat) : Int))
  · skip
    refine c_region ?_
    refine sv (o_mv rfl) rfl ?_
    refine sv (o_mv rfl) rfl ?_
    refine sv (o_geq rfl rfl) rfl ?_
    refine sv (o_mv rfl) rfl ?_
    refine sn rfl (fun e_ => absurd ((decide_eq_true hk17).symm.trans e_) (by decide)) rfl ?_
    refine sn rfl (fun e_ => absurd ((decide_eq_true hk17).symm.trans e_) (by decide)) rfl ?_
    refine sv (o_pickT (decide_eq_true hk17) rfl rfl) rfl ?_
    refine l_nil ?_
    refine e_K (hK6 _ _ _ _ ?_)
    refine c_true rfl ?_
    refine c_exit ?_
    refine e_then (by simp) ?_
    refine e_miss rfl ?_
    refine e_then (by simp) ?_
    refine e_hit ?_
    refine e_K (hK3 _ _ _ _ ?_)
    refine c_seq fun K7 hK7 => ?_
    refine c_region ?_
    refine sv (o_mv rfl) rfl ?_
    refine sv (o_mv rfl) rfl ?_
    refine sv (o_gtr rfl rfl) rfl ?_
    refine sv (o_as rfl) rfl ?_
    refine l_nil ?_
    refine e_K (hK7 _ _ _ _ ?_)
    refine c_ret ?_
    exact ret1 rfl rfl ⟨hh, hp, DD.none (by omega), hsame, OH, E⟩
  · skip
    refine c_region ?_
    refine sv (o_mv rfl) rfl ?_
    refine sv (o_mv rfl) rfl ?_
    refine sv (o_geq rfl rfl) rfl ?_
    refine sv (o_mv rfl) rfl ?_
    refine sg rfl (decide_eq_false hk17) (o_mv rfl) rfl ?_
    refine sg rfl (decide_eq_false hk17) (o_lss rfl rfl) rfl ?_
    refine sv (o_pickF (decide_eq_false hk17) rfl rfl) rfl ?_
    refine l_nil ?_
    refine e_K (hK6 _ _ _ _ ?_)
    refine c_if rfl (fun h21 => ?_) (fun h21 => ?_)
    · skip
      refine c_exit ?_
      refine e_then (by simp) ?_
      refine e_miss rfl ?_
      refine e_then (by simp) ?_
      refine e_hit ?_
      refine e_K (hK3 _ _ _ _ ?_)
      refine c_seq fun K8 hK8 => ?_
      refine c_region ?_
      refine sv (o_mv rfl) rfl ?_
      refine sv (o_mv rfl) rfl ?_
      refine sv (o_gtr rfl rfl) rfl ?_
      refine sv (o_as rfl) rfl ?_
      refine l_nil ?_
      refine e_K (hK8 _ _ _ _ ?_)
      refine c_ret ?_
      exact ret1 rfl rfl ⟨hh, hp, DD.none (by omega), hsame, OH, E⟩
    · skip
      refine c_skip ?_
      refine e_K (hK5 _ _ _ _ ?_)
      refine c_seq fun K9 hK9 => ?_
      refine c_region ?_
      refine sv (o_mv rfl) rfl ?_
      refine sv (o_as rfl) rfl ?_
      refine l_nil ?_
      refine e_K (hK9 _ _ _ _ ?_)
      refine c_seq fun K10 hK10 => ?_
      refine c_seq fun K11 hK11 => ?_
      refine c_region ?_
      refine sv (o_mv rfl) rfl ?_
      refine sv ((o_addN rfl rfl (by omega)).to (v' := .int .i64 ((2 * i + 2 : Nat) : Int)) (by first | rfl | (congr 1; omega))) rfl ?_
      refine sv (o_as rfl) rfl ?_
      refine l_nil ?_
      refine e_K (hK11 _ _ _ _ ?_)
      refine c_seq fun K12 hK12 => ?_
      by_cases hk27 : (((2 * i + 2 : Nat) : Int) < (m : Int))
      · skip
        by_cases hb32 : I.lt (at0 hh (2 * i + 2)) (at0 hh (2 * i + 1)) = true
        · skip
          refine c_region ?_
          refine sv (o_mv rfl) rfl ?_
          refine sv (o_mv rfl) rfl ?_
          refine sv (o_lss rfl rfl) rfl ?_
          refine sv (o_mv rfl) rfl ?_
          refine sg rfl (decide_eq_true hk27) (o_mv rfl) rfl ?_
          refine sg rfl (decide_eq_true hk27) (o_mv rfl) rfl ?_
          refine sg rfl (decide_eq_true hk27) (o_mv rfl) rfl ?_
          refine sgc rfl (decide_eq_true hk27) (o_inv ent85 (run_method_val mthLess Try.underlying67 (run_loadVar_sc sc68 (Br.cell (i := 0) rfl))) rfl rfl) (c_less _ I HI hv hh OH hnh (2 * i + 2) (2 * i + 1) (by omega) (by omega)) rfl fun v_ w2 h_ => ?_
          obtain ⟨rfl, E_⟩ := h_
          replace OH := OH.mod0 E_
          replace HI := HI.mod0 E_
          replace Br := Br.mod0 E_
          replace E := E.then E_
          refine sv (o_pickT (decide_eq_true hk27) rfl rfl) rfl ?_
          refine l_nil ?_
          refine e_K (hK12 _ _ _ _ ?_)
          refine c_cond rfl (fun h33 => ?_) (fun h33 => absurd ((hb32).symm.trans h33) (by decide))
          have hbst : ∀ c, c < m → (c = 2 * i + 1 ∨ c = 2 * i + 2) → I.lt (at0 hh c) (at0 hh (2 * i + 2)) = false := fun c hc hc2 => by
            rcases hc2 with rfl | rfl
            · exact SS.nlt' hb32
            · exact SS.ir _
          have hjm : 2 * i + 2 < m := by omega
          refine c_region ?_
          refine sv (o_mv rfl) rfl ?_
          refine sv (o_as rfl) rfl ?_
          refine l_nil ?_
          refine e_K (hK10 _ _ _ _ ?_)
          refine c_seq fun K13 hK13 => ?_
          refine c_seq fun K14 hK14 => ?_
          by_cases hb38 : I.lt (at0 hh (2 * i + 2)) (at0 hh i) = true
          · skip
            refine c_region ?_
            refine sv (o_mv rfl) rfl ?_
            refine sv (o_mv rfl) rfl ?_
            refine sv (o_mv rfl) rfl ?_
            refine sc (o_inv ent85 (run_method_val mthLess Try.underlying67 (run_loadVar_sc sc68 (Br.cell (i := 0) rfl))) rfl rfl) (c_less _ I HI hv hh OH hnh (2 * i + 2) i (by omega) (by omega)) rfl fun v_ w3 h_ => ?_
            obtain ⟨rfl, E_⟩ := h_
            replace OH := OH.mod0 E_
            replace HI := HI.mod0 E_
            replace Br := Br.mod0 E_
            replace E := E.then E_
            refine sv (o_not rfl) rfl ?_
            refine l_nil ?_
            refine e_K (hK14 _ _ _ _ ?_)
            refine c_cond rfl (fun h39 => absurd (((show (!I.lt (at0 hh (2 * i + 2)) (at0 hh i)) = false by rw [hb38]; rfl)).symm.trans h39) (by decide)) (fun h39 => ?_)
            refine c_skip ?_
            refine e_K (hK13 _ _ _ _ ?_)
            refine c_seq fun K15 hK15 => ?_
            refine c_region ?_
            refine sv (o_mv rfl) rfl ?_
            refine sv (o_mv rfl) rfl ?_
            refine sv (o_mv rfl) rfl ?_
            refine sc (o_inv ent88 (run_method_val mthSwap Try.underlying67 (run_loadVar_sc sc68 (Br.cell (i := 0) rfl))) rfl rfl) (c_swap _ I hv hh OH i (2 * i + 2) (by omega) (by omega)) rfl fun v_ w4 h_ => ?_
            obtain ⟨OS_, ES_⟩ := h_
            replace HI := HI.mod ES_ (fun i hi hx => Own.neT OH (HI i hi) (by decide) _ hx rfl)
            replace Br := Br.mod ES_ (fun hx => Own.neT OH Br (by decide) _ hx rfl)
            replace E := E.trans ES_
            refine l_nil ?_
            refine e_K (hK15 _ _ _ _ ?_)
            refine c_region ?_
            refine sv (o_mv rfl) rfl ?_
            refine sv (o_as rfl) rfl ?_
            refine l_nil ?_
            refine e_in (by simp) ?_
            exact e_round (σ := Nat × List Nat) (s := ⟨i, hh⟩) (⟨2 * i + 2, swp hh i (2 * i + 2)⟩) ⟨rfl, rfl, rfl, rfl, trivial⟩ ⟨by omega, fun k hk => by rw [at_swp (by omega) (by omega), if_neg (by omega), if_neg (by omega)]; exact hsame k hk, DnI.step SS hnh DD (by omega) hjm (.inr rfl) hbst hb38, (swp_perm (by omega) (by omega)).trans hp, OS_, HI, Br, E⟩ (by dsimp only; omega)
          · skip
            refine c_region ?_
            refine sv (o_mv rfl) rfl ?_
            refine sv (o_mv rfl) rfl ?_
            refine sv (o_mv rfl) rfl ?_
            refine sc (o_inv ent85 (run_method_val mthLess Try.underlying67 (run_loadVar_sc sc68 (Br.cell (i := 0) rfl))) rfl rfl) (c_less _ I HI hv hh OH hnh (2 * i + 2) i (by omega) (by omega)) rfl fun v_ w5 h_ => ?_
            obtain ⟨rfl, E_⟩ := h_
            replace OH := OH.mod0 E_
            replace HI := HI.mod0 E_
            replace Br := Br.mod0 E_
            replace E := E.then E_
            refine sv (o_not rfl) rfl ?_
            refine l_nil ?_
            refine e_K (hK14 _ _ _ _ ?_)
            refine c_cond rfl (fun h39 => ?_) (fun h39 => absurd (((show (!I.lt (at0 hh (2 * i + 2)) (at0 hh i)) = true by rw [Bool.eq_false_iff.2 hb38]; rfl)).symm.trans h39) (by decide))
            refine c_exit ?_
            refine e_then (by simp) ?_
            refine e_miss rfl ?_
            refine e_then (by simp) ?_
            refine e_hit ?_
            refine e_K (hK3 _ _ _ _ ?_)
            refine c_seq fun K16 hK16 => ?_
            refine c_region ?_
            refine sv (o_mv rfl) rfl ?_
            refine sv (o_mv rfl) rfl ?_
            refine sv (o_gtr rfl rfl) rfl ?_
            refine sv (o_as rfl) rfl ?_
            refine l_nil ?_
            refine e_K (hK16 _ _ _ _ ?_)
            refine c_ret ?_
            exact ret1 rfl rfl ⟨hh, hp, DD.done SS hnh (by omega) hjm (.inr rfl) hbst (Bool.eq_false_iff.2 hb38), hsame, OH, E⟩
        · skip
          refine c_region ?_
          refine sv (o_mv rfl) rfl ?_
          refine sv (o_mv rfl) rfl ?_
          refine sv (o_lss rfl rfl) rfl ?_
          refine sv (o_mv rfl) rfl ?_
          refine sg rfl (decide_eq_true hk27) (o_mv rfl) rfl ?_
          refine sg rfl (decide_eq_true hk27) (o_mv rfl) rfl ?_
          refine sg rfl (decide_eq_true hk27) (o_mv rfl) rfl ?_
          refine sgc rfl (decide_eq_true hk27) (o_inv ent85 (run_method_val mthLess Try.underlying67 (run_loadVar_sc sc68 (Br.cell (i := 0) rfl))) rfl rfl) (c_less _ I HI hv hh OH hnh (2 * i + 2) (2 * i + 1) (by omega) (by omega)) rfl fun v_ w6 h_ => ?_
          obtain ⟨rfl, E_⟩ := h_
          replace OH := OH.mod0 E_
          replace HI := HI.mod0 E_
          replace Br := Br.mod0 E_
          replace E := E.then E_
          refine sv (o_pickT (decide_eq_true hk27) rfl rfl) rfl ?_
          refine l_nil ?_
          refine e_K (hK12 _ _ _ _ ?_)
          refine c_cond rfl (fun h33 => absurd (((Bool.eq_false_iff.2 hb32)).symm.trans h33) (by decide)) (fun h33 => ?_)
          have hbst : ∀ c, c < m → (c = 2 * i + 1 ∨ c = 2 * i + 2) → I.lt (at0 hh c) (at0 hh (2 * i + 1)) = false := fun c hc hc2 => by
            rcases hc2 with rfl | rfl
            · exact SS.ir _
            · exact Bool.eq_false_iff.2 hb32
          have hjm : 2 * i + 1 < m := by omega
          refine c_skip ?_
          refine e_K (hK10 _ _ _ _ ?_)
          refine c_seq fun K17 hK17 => ?_
          refine c_seq fun K18 hK18 => ?_
          by_cases hb38 : I.lt (at0 hh (2 * i + 1)) (at0 hh i) = true
          · skip
            refine c_region ?_
            refine sv (o_mv rfl) rfl ?_
            refine sv (o_mv rfl) rfl ?_
            refine sv (o_mv rfl) rfl ?_
            refine sc (o_inv ent85 (run_method_val mthLess Try.underlying67 (run_loadVar_sc sc68 (Br.cell (i := 0) rfl))) rfl rfl) (c_less _ I HI hv hh OH hnh (2 * i + 1) i (by omega) (by omega)) rfl fun v_ w7 h_ => ?_
            obtain ⟨rfl, E_⟩ := h_
            replace OH := OH.mod0 E_
            replace HI := HI.mod0 E_
            replace Br := Br.mod0 E_
            replace E := E.then E_
            refine sv (o_not rfl) rfl ?_
            refine l_nil ?_
            refine e_K (hK18 _ _ _ _ ?_)
            refine c_cond rfl (fun h39 => absurd (((show (!I.lt (at0 hh (2 * i + 1)) (at0 hh i)) = false by rw [hb38]; rfl)).symm.trans h39) (by decide)) (fun h39 => ?_)
            refine c_skip ?_
            refine e_K (hK17 _ _ _ _ ?_)
            refine c_seq fun K19 hK19 => ?_
            refine c_region ?_
            refine sv (o_mv rfl) rfl ?_
            refine sv (o_mv rfl) rfl ?_
            refine sv (o_mv rfl) rfl ?_
            refine sc (o_inv ent88 (run_method_val mthSwap Try.underlying67 (run_loadVar_sc sc68 (Br.cell (i := 0) rfl))) rfl rfl) (c_swap _ I hv hh OH i (2 * i + 1) (by omega) (by omega)) rfl fun v_ w8 h_ => ?_
            obtain ⟨OS_, ES_⟩ := h_
            replace HI := HI.mod ES_ (fun i hi hx => Own.neT OH (HI i hi) (by decide) _ hx rfl)
            replace Br := Br.mod ES_ (fun hx => Own.neT OH Br (by decide) _ hx rfl)
            replace E := E.trans ES_
            refine l_nil ?_
            refine e_K (hK19 _ _ _ _ ?_)
            refine c_region ?_
            refine sv (o_mv rfl) rfl ?_
            refine sv (o_as rfl) rfl ?_
            refine l_nil ?_
            refine e_in (by simp) ?_
            exact e_round (σ := Nat × List Nat) (s := ⟨i, hh⟩) (⟨2 * i + 1, swp hh i (2 * i + 1)⟩) ⟨rfl, rfl, rfl, rfl, trivial⟩ ⟨by omega, fun k hk => by rw [at_swp (by omega) (by omega), if_neg (by omega), if_neg (by omega)]; exact hsame k hk, DnI.step SS hnh DD (by omega) hjm (.inl rfl) hbst hb38, (swp_perm (by omega) (by omega)).trans hp, OS_, HI, Br, E⟩ (by dsimp only; omega)
          · skip
            refine c_region ?_
            refine sv (o_mv rfl) rfl ?_
            refine sv (o_mv rfl) rfl ?_
            refine sv (o_mv rfl) rfl ?_
            refine sc (o_inv ent85 (run_method_val mthLess Try.underlying67 (run_loadVar_sc sc68 (Br.cell (i := 0) rfl))) rfl rfl) (c_less _ I HI hv hh OH hnh (2 * i + 1) i (by omega) (by omega)) rfl fun v_ w9 h_ => ?_
            obtain ⟨rfl, E_⟩ := h_
            replace OH := OH.mod0 E_
            replace HI := HI.mod0 E_
            replace Br := Br.mod0 E_
            replace E := E.then E_
            refine sv (o_not rfl) rfl ?_
            refine l_nil ?_
            refine e_K (hK18 _ _ _ _ ?_)
            refine c_cond rfl (fun h39 => ?_) (fun h39 => absurd (((show (!I.lt (at0 hh (2 * i + 1)) (at0 hh i)) = true by rw [Bool.eq_false_iff.2 hb38]; rfl)).symm.trans h39) (by decide))
            refine c_exit ?_
            refine e_then (by simp) ?_
            refine e_miss rfl ?_
            refine e_then (by simp) ?_
            refine e_hit ?_
            refine e_K (hK3 _ _ _ _ ?_)
            refine c_seq fun K20 hK20 => ?_
            refine c_region ?_
            refine sv (o_mv rfl) rfl ?_
            refine sv (o_mv rfl) rfl ?_
            refine sv (o_gtr rfl rfl) rfl ?_
            refine sv (o_as rfl) rfl ?_
            refine l_nil ?_
            refine e_K (hK20 _ _ _ _ ?_)
            refine c_ret ?_
            exact ret1 rfl rfl ⟨hh, hp, DD.done SS hnh (by omega) hjm (.inl rfl) hbst (Bool.eq_false_iff.2 hb38), hsame, OH, E⟩
      · skip
        refine c_region ?_
        refine sv (o_mv rfl) rfl ?_
        refine sv (o_mv rfl) rfl ?_
        refine sv (o_lss rfl rfl) rfl ?_
        refine sv (o_mv rfl) rfl ?_
        refine sn rfl (fun e_ => absurd ((decide_eq_false hk27).symm.trans e_) (by decide)) rfl ?_
        refine sn rfl (fun e_ => absurd ((decide_eq_false hk27).symm.trans e_) (by decide)) rfl ?_
        refine sn rfl (fun e_ => absurd ((decide_eq_false hk27).symm.trans e_) (by decide)) rfl ?_
        refine sn rfl (fun e_ => absurd ((decide_eq_false hk27).symm.trans e_) (by decide)) rfl ?_
        refine sv (o_pickF (decide_eq_false hk27) rfl rfl) rfl ?_
        refine l_nil ?_
        refine e_K (hK12 _ _ _ _ ?_)
        refine c_false rfl ?_
        have hbst : ∀ c, c < m → (c = 2 * i + 1 ∨ c = 2 * i + 2) → I.lt (at0 hh c) (at0 hh (2 * i + 1)) = false := fun c hc hc2 => by
          rcases hc2 with rfl | rfl
          · exact SS.ir _
          · exact absurd hc (by omega)
        have hjm : 2 * i + 1 < m := by omega
        refine c_skip ?_
        refine e_K (hK10 _ _ _ _ ?_)
        refine c_seq fun K21 hK21 => ?_
        refine c_seq fun K22 hK22 => ?_
        by_cases hb38 : I.lt (at0 hh (2 * i + 1)) (at0 hh i) = true
        · skip
          refine c_region ?_
          refine sv (o_mv rfl) rfl ?_
          refine sv (o_mv rfl) rfl ?_
          refine sv (o_mv rfl) rfl ?_
          refine sc (o_inv ent85 (run_method_val mthLess Try.underlying67 (run_loadVar_sc sc68 (Br.cell (i := 0) rfl))) rfl rfl) (c_less _ I HI hv hh OH hnh (2 * i + 1) i (by omega) (by omega)) rfl fun v_ w10 h_ => ?_
          obtain ⟨rfl, E_⟩ := h_
          replace OH := OH.mod0 E_
          replace HI := HI.mod0 E_
          replace Br := Br.mod0 E_
          replace E := E.then E_
          refine sv (o_not rfl) rfl ?_
          refine l_nil ?_
          refine e_K (hK22 _ _ _ _ ?_)
          refine c_cond rfl (fun h39 => absurd (((show (!I.lt (at0 hh (2 * i + 1)) (at0 hh i)) = false by rw [hb38]; rfl)).symm.trans h39) (by decide)) (fun h39 => ?_)
          refine c_skip ?_
          refine e_K (hK21 _ _ _ _ ?_)
          refine c_seq fun K23 hK23 => ?_
          refine c_region ?_
          refine sv (o_mv rfl) rfl ?_
          refine sv (o_mv rfl) rfl ?_
          refine sv (o_mv rfl) rfl ?_
          refine sc (o_inv ent88 (run_method_val mthSwap Try.underlying67 (run_loadVar_sc sc68 (Br.cell (i := 0) rfl))) rfl rfl) (c_swap _ I hv hh OH i (2 * i + 1) (by omega) (by omega)) rfl fun v_ w11 h_ => ?_
          obtain ⟨OS_, ES_⟩ := h_
          replace HI := HI.mod ES_ (fun i hi hx => Own.neT OH (HI i hi) (by decide) _ hx rfl)
          replace Br := Br.mod ES_ (fun hx => Own.neT OH Br (by decide) _ hx rfl)
          replace E := E.trans ES_
          refine l_nil ?_
          refine e_K (hK23 _ _ _ _ ?_)
          refine c_region ?_
          refine sv (o_mv rfl) rfl ?_
          refine sv (o_as rfl) rfl ?_
          refine l_nil ?_
          refine e_in (by simp) ?_
          exact e_round (σ := Nat × List Nat) (s := ⟨i, hh⟩) (⟨2 * i + 1, swp hh i (2 * i + 1)⟩) ⟨rfl, rfl, rfl, rfl, trivial⟩ ⟨by omega, fun k hk => by rw [at_swp (by omega) (by omega), if_neg (by omega), if_neg (by omega)]; exact hsame k hk, DnI.step SS hnh DD (by omega) hjm (.inl rfl) hbst hb38, (swp_perm (by omega) (by omega)).trans hp, OS_, HI, Br, E⟩ (by dsimp only; omega)
        · skip
          refine c_region ?_
          refine sv (o_mv rfl) rfl ?_
          refine sv (o_mv rfl) rfl ?_
          refine sv (o_mv rfl) rfl ?_
          refine sc (o_inv ent85 (run_method_val mthLess Try.underlying67 (run_loadVar_sc sc68 (Br.cell (i := 0) rfl))) rfl rfl) (c_less _ I HI hv hh OH hnh (2 * i + 1) i (by omega) (by omega)) rfl fun v_ w12 h_ => ?_
          obtain ⟨rfl, E_⟩ := h_
          replace OH := OH.mod0 E_
          replace HI := HI.mod0 E_
          replace Br := Br.mod0 E_
          replace E := E.then E_
          refine sv (o_not rfl) rfl ?_
          refine l_nil ?_
          refine e_K (hK22 _ _ _ _ ?_)
          refine c_cond rfl (fun h39 => ?_) (fun h39 => absurd (((show (!I.lt (at0 hh (2 * i + 1)) (at0 hh i)) = true by rw [Bool.eq_false_iff.2 hb38]; rfl)).symm.trans h39) (by decide))
          refine c_exit ?_
          refine e_then (by simp) ?_
          refine e_miss rfl ?_
          refine e_then (by simp) ?_
          refine e_hit ?_
          refine e_K (hK3 _ _ _ _ ?_)
          refine c_seq fun K24 hK24 => ?_
          refine c_region ?_
          refine sv (o_mv rfl) rfl ?_
          refine sv (o_mv rfl) rfl ?_
          refine sv (o_gtr rfl rfl) rfl ?_
          refine sv (o_as rfl) rfl ?_
          refine l_nil ?_
          refine e_K (hK24 _ _ _ _ ?_)
          refine c_ret ?_
          exact ret1 rfl rfl ⟨hh, hp, DD.done SS hnh (by omega) hjm (.inl rfl) hbst (Bool.eq_false_iff.2 hb38), hsame, OH, E⟩
end Go.Proofs.Ythmohmpalbnjoaa.V

set_option linter.unusedVariables false
set_option linter.unusedSimpArgs false
set_option maxRecDepth 10000
namespace Go.Proofs.Ythmohmpalbnjoaa.V
open Go Go.Proofs
theorem mthPush : mthB Try.prog 67 "Push" 87 true = true := by kernel_rfl
theorem ent87 : Ent Try.prog 87 := Ent.of Try.func87 (by kernel_rfl) (by kernel_rfl)
theorem mthLen : mthB Try.prog 67 "Len" 31 false = true := by kernel_rfl
theorem ent31 : Ent Try.prog 31 := Ent.of Try.func31 (by kernel_rfl) (by kernel_rfl)
theorem ent42 : Ent Try.prog 42 := Ent.of Try.func42 (by kernel_rfl) (by kernel_rfl)
theorem ent43 : Ent Try.prog 43 := Ent.of Try.func43 (by kernel_rfl) (by kernel_rfl)
theorem mthPop : mthB Try.prog 67 "Pop" 86 true = true := by kernel_rfl
theorem ent86 : Ent Try.prog 86 := Ent.of Try.func86 (by kernel_rfl) (by kernel_rfl)
theorem c_hpush (w : World) (I : Its) (gr : Nat) (hv : Value) (h : List Nat) (Br : Blk w gr 68 [hv]) (O : OwnR I 63 w hv h) (hI : I.In 66 w) (hn : ∀ x ∈ h, x < I.n) (SS : SO I.lt I.n) (H : Heap I.lt h h.length) (hl : h.length ≤ 100000) (x : Nat) (hx : x < I.n) : Calls Try.prog 30 [.iface 67 (.pointer (some ⟨gr, 0, none⟩)), .iface 63 (I.pv x)].toArray w (Ret fun u w' => ∃ hv' hh, hh.Perm (h ++ [x]) ∧ Heap I.lt hh hh.length ∧ Blk w' gr 68 [hv'] ∧ OwnR I 63 w' hv' hh ∧ (∀ y ∈ ob hv', y ∈ ob hv ∨ w.heap.size ≤ y) ∧ Mod (gr :: ob hv) w w') := by
  refine enter Try.func30 rfl rfl rfl (l := [(0, _), (1, _)]) ⟨rfl, rfl, trivial⟩ ?_
  have E := Mod.refl [] w
  have HI := hI
  refine c_seq fun K1 hK1 => ?_
  refine c_region ?_
  refine sv (o_mv rfl) rfl ?_
  refine sv (o_mv rfl) rfl ?_
  refine sc (o_inv ent87 (run_method_ptr mthPush Try.underlying67) rfl rfl) (c_pushR _ I gr hv h Br O x (by omega)) rfl fun v_ w1 h_ => ?_
  obtain ⟨hv2, Br2, O2, hob, EP_⟩ := h_
  replace HI := HI.mod EP_ (fun i hi hx => by rcases List.mem_cons.1 hx with hx | hx; exact (Blk.neT_ (HI i hi) Br (by decide)) hx; exact Own.neT O (HI i hi) (by decide) _ hx rfl)
  replace E := (E.mono (N := gr :: ob hv) (by simp)).trans EP_
  have hn2 : ∀ y ∈ h ++ [x], y < I.n := fun y hy => (List.mem_append.1 hy).elim (hn y) (fun h => by simp at h; subst h; exact hx)
  refine l_nil ?_
  refine e_K (hK1 _ _ _ _ ?_)
  refine c_region ?_
  refine sv (o_mv rfl) rfl ?_
  refine sv (o_mv rfl) rfl ?_
  refine sc (o_inv ent31 (run_method_val mthLen Try.underlying67 (run_loadVar_sc sc68 (Br2.cell (i := 0) rfl))) rfl rfl) (c_lenR _ I hv2 (h ++ [x]) O2) rfl fun v_ w2 h_ => ?_
  obtain ⟨rfl, E_⟩ := h_
  replace E := E.then E_
  replace HI := HI.mod0 E_
  replace Br2 := Br2.mod0 E_
  replace O2 := O2.mod0 E_
  refine sv (o_subE (r := (h.length : Int)) rfl rfl (by rw [wrap64_in _ (by simp only [List.length_append, List.length_singleton]; omega)]; simp)) rfl ?_
  refine sc (o_call ent42 rfl) (c_up _ I gr hv2 (h ++ [x]) Br2 O2 HI hn2 SS h.length (by simp) (UpI.push H) (by simp only [List.length_append, List.length_singleton]; omega)) rfl fun v_ w3 h_ => ?_
  obtain ⟨hh, hp, HH, O3, EU_⟩ := h_
  have Br3 := Br2.mod EU_ (fun hx => Own.neT O2 Br2 (by decide) _ hx rfl)
  replace E := E.trans' EU_ (fun y hy => (hob y hy).imp (fun h => by simp [h]) id)
  refine l_nil ?_
  exact end0 rfl ⟨hv2, hh, hp, HH, Br3, O3, hob, E⟩

theorem c_hpop (w : World) (I : Its) (gr : Nat) (hv : Value) (h : List Nat) (Br : Blk w gr 68 [hv]) (O : OwnR I 63 w hv h) (hI : I.In 66 w) (hn : ∀ x ∈ h, x < I.n) (SS : SO I.lt I.n) (H : Heap I.lt h h.length) (hl : h.length ≤ 100000) (hl0 : 0 < h.length) : Calls Try.prog 32 [.iface 67 (.pointer (some ⟨gr, 0, none⟩))].toArray w (Ret fun u w' => ∃ x hv' hh, u = .iface 63 (I.pv x) ∧ (x :: hh).Perm h ∧ (∀ y ∈ h, I.lt y x = false) ∧ Heap I.lt hh hh.length ∧ Blk w' gr 68 [hv'] ∧ OwnR I 63 w' hv' hh ∧ ob hv' = ob hv ∧ Mod (gr :: ob hv) w w') := by
  refine enter Try.func32 rfl rfl rfl (l := [(0, _)]) ⟨rfl, trivial⟩ ?_
  have E := Mod.refl [] w
  have HI := hI
  refine c_seq fun K1 hK1 => ?_
  refine c_region ?_
  refine sv (o_as rfl) rfl ?_
  refine l_nil ?_
  refine e_K (hK1 _ _ _ _ ?_)
  refine c_seq fun K2 hK2 => ?_
  refine c_region ?_
  refine sv (o_mv rfl) rfl ?_
  refine sc (o_inv ent31 (run_method_val mthLen Try.underlying67 (run_loadVar_sc sc68 (Br.cell (i := 0) rfl))) rfl rfl) (c_lenR _ I hv h O) rfl fun v_ w1 h_ => ?_
  obtain ⟨rfl, E_⟩ := h_
  replace E := E.then E_
  replace HI := HI.mod0 E_
  replace Br := Br.mod0 E_
  replace O := O.mod0 E_
  refine sv (o_subE (r := ((h.length - 1 : Nat) : Int)) rfl rfl (by rw [wrap64_in _ (by omega)]; omega)) rfl ?_
  refine sv (o_as rfl) rfl ?_
  refine l_nil ?_
  refine e_K (hK2 _ _ _ _ ?_)
  refine c_seq fun K3 hK3 => ?_
  refine c_region ?_
  refine sv (o_mv rfl) rfl ?_
  refine sv (o_mv rfl) rfl ?_
  refine sc (o_inv ent88 (run_method_val mthSwap Try.underlying67 (run_loadVar_sc sc68 (Br.cell (i := 0) rfl))) rfl rfl) (c_swap _ I hv h O 0 (h.length - 1) (by omega) (by omega)) rfl fun v_ w2 h_ => ?_
  obtain ⟨O2, ES_⟩ := h_
  replace HI := HI.mod ES_ (fun i hi hx => Own.neT O (HI i hi) (by decide) _ hx rfl)
  replace Br := Br.mod ES_ (fun hx => Own.neT O Br (by decide) _ hx rfl)
  replace E := (E.mono (N := gr :: ob hv) (by simp)).trans (ES_.mono (by simp_all))
  have hps := swp_perm (h := h) (i := 0) (j := h.length - 1) (by omega) (by omega)
  have hsl := swp_len h 0 (h.length - 1)
  have hn2 : ∀ y ∈ swp h 0 (h.length - 1), y < I.n := fun y hy => hn y (hps.mem_iff.1 hy)
  refine l_nil ?_
  refine e_K (hK3 _ _ _ _ ?_)
  refine c_seq fun K4 hK4 => ?_
  refine c_region ?_
  refine sv (o_mv rfl) rfl ?_
  refine sv (o_mv rfl) rfl ?_
  refine sc (o_call ent43 rfl) (c_down _ I gr hv (swp h 0 (h.length - 1)) Br O2 HI hn2 SS (h.length - 1) (by omega) (DnI.pop H hl0) (by omega)) rfl fun v_ w3 h_ => ?_
  obtain ⟨hh, hp, HH, hsm, O3, ED_⟩ := h_
  have Br3 := Br.mod ED_ (fun hx => Own.neT O2 Br (by decide) _ hx rfl)
  replace E := E.trans (ED_.mono (by simp_all))
  have hhl : hh.length = h.length := by rw [hp.length_eq, hsl]
  refine l_nil ?_
  refine e_K (hK4 _ _ _ _ ?_)
  refine c_seq fun K5 hK5 => ?_
  refine c_region ?_
  refine sv (o_mv rfl) rfl ?_
  refine sc (o_inv ent86 (run_method_ptr mthPop Try.underlying67) rfl rfl) (c_popR _ I gr hv hh Br3 O3 (by omega)) rfl fun v_ w4 h_ => ?_
  obtain ⟨rfl, hv2, Br4, O4, hob, EP_⟩ := h_
  replace E := E.trans (EP_.mono (by simp))
  refine sv (o_as rfl) rfl ?_
  refine l_nil ?_
  refine e_K (hK5 _ _ _ _ ?_)
  refine c_ret ?_
  exact ret1 rfl rfl ⟨at0 hh (hh.length - 1), hv2, hh.take (hh.length - 1), rfl, pop_perm (by omega) (hp.trans hps), fun y hy => pop_min SS hn H hhl hl0 hsm y hy, pop_heap (by rw [hhl]; exact HH) (by omega), Br4, O4, hob, E⟩
end Go.Proofs.Ythmohmpalbnjoaa.V

set_option linter.unusedVariables false
set_option linter.unusedSimpArgs false
namespace Go.Proofs.Ythmohmpalbnjoaa.V
open Go
/-- does k stand below the best so far? -/
def beat (lt : Nat → Nat → Bool) (o : Option Nat) (k : Nat) : Bool := match o with
  | none => true
  | some b => lt k b
section
variable (lt : Nat → Nat → Bool) (pr : Nat → Nat → Bool) (n : Nat)
/-- may i come next, when these have come? 'pr i k': k stands in the past of i -/
def okI (O : List Nat) (i : Nat) : Prop := i ∉ O ∧ ∀ k, k < n → k = i ∨ k ∈ O ∨ pr i k = false
instance (O : List Nat) (i : Nat) : Decidable (okI pr n O i) := by unfold okI; infer_instance
def bestI (O : List Nat) : Nat → Option Nat
  | 0 => none
  | k + 1 => if okI pr n O k ∧ beat lt (bestI O k) k = true then some k else bestI O k
def ordI : Nat → List Nat
  | 0 => []
  | j + 1 => match bestI lt pr n (ordI j) n with
    | some b => ordI j ++ [b]
    | none => ordI j
end
section
variable {lt : Nat → Nat → Bool} {pr : Nat → Nat → Bool} {n : Nat} {O : List Nat}
theorem bestI_lt {k b : Nat} (h : bestI lt pr n O k = some b) : b < k ∧ okI pr n O b := by
  induction k with
  | zero => simp [bestI] at h
  | succ k ih =>
    rw [bestI] at h
    split at h
    · rename_i hc
      injection h with h
      subst h
      exact ⟨Nat.lt_succ_self _, hc.1⟩
    · have := ih h
      exact ⟨by omega, this.2⟩
theorem bestI_none {k : Nat} (h : bestI lt pr n O k = none) : ∀ i, i < k → ¬ okI pr n O i := by
  induction k with
  | zero => intro i hi; omega
  | succ k ih =>
    rw [bestI] at h
    split at h
    · cases h
    · rename_i hc
      intro i hi hok
      rcases Nat.lt_or_ge i k with h1 | h1
      · exact ih h i h1 hok
      · have : i = k := by omega
        subst this
        rw [h] at hc
        exact hc ⟨hok, rfl⟩
theorem bestI_min (S : SO lt n) {k b : Nat} (hk : k ≤ n) (h : bestI lt pr n O k = some b) : ∀ i, i < k → okI pr n O i → i = b ∨ lt b i = true := by
  induction k generalizing b with
  | zero => intro i hi; omega
  | succ k ih =>
    intro i hi hok
    rw [bestI] at h
    split at h
    · rename_i hc
      injection h with h
      subst h
      rcases Nat.lt_or_ge i k with h1 | h1
      · right
        cases hb : bestI lt pr n O k with
        | none => exact absurd hok (bestI_none hb i h1)
        | some c =>
          have hl : lt k c = true := by have := hc.2; rw [hb] at this; exact this
          rcases ih (by omega) hb i h1 hok with h2 | h2
          · subst h2; exact hl
          · exact S.tr _ _ _ hl h2
      · exact .inl (by omega)
    · rename_i hc
      rcases Nat.lt_or_ge i k with h1 | h1
      · exact ih (by omega) h i h1 hok
      · have : i = k := by omega
        subst this
        right
        have hbl := (bestI_lt h).1
        have hnl : lt i b ≠ true := fun hl => hc ⟨hok, by rw [h]; exact hl⟩
        rcases S.tot i b (by omega) (by omega) (by omega) with h2 | h2
        · exact absurd h2 hnl
        · exact h2
theorem best_eq (S : SO lt n) {x : Nat} (hx : x < n) (hok : okI pr n O x) (hm : ∀ y, y < n → okI pr n O y → lt y x = false) : bestI lt pr n O n = some x := by
  cases hb : bestI lt pr n O n with
  | none => exact absurd hok (bestI_none hb x hx)
  | some b =>
    have h1 := bestI_lt hb
    rcases bestI_min S (Nat.le_refl _) hb x hx hok with h2 | h2
    · rw [h2]
    · rw [hm b h1.1 h1.2] at h2
      cases h2
/-- the past of a past is a past; none is in its own -/
structure Acyc (pr : Nat → Nat → Bool) (n : Nat) : Prop where
  pos : ∃ p : Nat → Nat, ∀ i k, i < n → k < n → k ≠ i → pr i k = true → p k < p i
theorem Acyc.ex (A : Acyc pr n) (hO : ∃ i, i < n ∧ i ∉ O) : ∃ i, i < n ∧ okI pr n O i := by
  obtain ⟨p, hp⟩ := A.pos
  obtain ⟨i0, hi0, hn0⟩ := hO
  have key : ∀ c i, p i = c → i < n → i ∉ O → ∃ i, i < n ∧ okI pr n O i := by
    intro c
    induction c using Nat.strongRecOn with
    | _ c ih =>
      intro i hc hi hn
      by_cases hok : okI pr n O i
      · exact ⟨i, hi, hok⟩
      · have : ∃ k, k < n ∧ ¬ (k = i ∨ k ∈ O ∨ pr i k = false) := Classical.byContradiction fun hne => hok ⟨hn, fun k hk => Classical.byContradiction fun h => hne ⟨k, hk, h⟩⟩
        obtain ⟨k, hk, hne⟩ := this
        have h1 : k ≠ i := fun h => hne (.inl h)
        have h2 : k ∉ O := fun h => hne (.inr (.inl h))
        have h3 : pr i k = true := by cases hb : pr i k with | true => rfl | false => exact absurd (.inr (.inr hb)) hne
        exact ih (p k) (by have := hp i k hi hk h1 h3; omega) k rfl hk h2
  exact key _ i0 rfl hi0 hn0
/-- what has come -/
structure Came (pr : Nat → Nat → Bool) (n : Nat) (O : List Nat) : Prop where
  nd : O.Nodup
  lt : ∀ i ∈ O, i < n
  cl : ∀ i ∈ O, ∀ k, k < n → k ≠ i → pr i k = true → k ∈ O
theorem Came.nil : Came pr n [] := ⟨List.nodup_nil, by simp, by simp⟩
theorem Came.next (h : Came pr n O) {x : Nat} (hx : x < n) (hok : okI pr n O x) : Came pr n (O ++ [x]) := by
  refine ⟨?_, fun i hi => ?_, fun i hi k hk hki hp => ?_⟩
  · rw [List.nodup_append]
    refine ⟨h.nd, by simp, fun a ha b hb => ?_⟩
    simp only [List.mem_singleton] at hb
    subst hb
    intro e
    subst e
    exact hok.1 ha
  · rcases List.mem_append.1 hi with h' | h'
    · exact h.lt i h'
    · simp at h'; subst h'; exact hx
  · rcases List.mem_append.1 hi with h' | h'
    · exact List.mem_append_left _ (h.cl i h' k hk hki hp)
    · simp at h'
      subst h'
      rcases hok.2 k hk with h1 | h1 | h1
      · exact absurd h1 hki
      · exact List.mem_append_left _ h1
      · rw [h1] at hp; cases hp
theorem Came.all (h : Came pr n O) : O.length ≤ n ∧ (O.length = n → ∀ i, i < n → i ∈ O) := by
  have key : ∀ {l k : List Nat}, l.Nodup → (∀ x ∈ l, x ∈ k) → l.length ≤ k.length := by
    intro l
    induction l with
    | nil => intro k _ _; simp
    | cons a r ih =>
      intro k hn hs
      have h' := List.nodup_cons.1 hn
      have ha := hs a (by simp)
      have := ih (k := k.erase a) h'.2 (fun x hx => (List.mem_erase_of_ne (fun e => h'.1 (by rw [← e]; exact hx))).2 (hs x (by simp [hx])))
      rw [List.length_erase_of_mem ha] at this
      have := List.length_pos_of_mem ha
      simp only [List.length_cons]
      omega
  refine ⟨by simpa using key h.nd (k := List.range n) (fun x hx => List.mem_range.2 (h.lt x hx)), fun e i hi => Classical.byContradiction fun hn => ?_⟩
  have := key (l := i :: O) (k := List.range n) (List.nodup_cons.2 ⟨hn, h.nd⟩) (fun x hx => by
    rcases List.mem_cons.1 hx with rfl | hx
    · exact List.mem_range.2 hi
    · exact List.mem_range.2 (h.lt x hx))
  simp at this
  omega
theorem Came.full (h : Came pr n O) (ha : ∀ i, i < n → i ∈ O) : O.length = n := by
  have := h.all.1
  have key : ∀ {l k : List Nat}, l.Nodup → (∀ x ∈ l, x ∈ k) → l.length ≤ k.length := by
    intro l
    induction l with
    | nil => intro k _ _; simp
    | cons a r ih =>
      intro k hn hs
      have h' := List.nodup_cons.1 hn
      have ha := hs a (by simp)
      have := ih (k := k.erase a) h'.2 (fun x hx => (List.mem_erase_of_ne (fun e => h'.1 (by rw [← e]; exact hx))).2 (hs x (by simp [hx])))
      rw [List.length_erase_of_mem ha] at this
      have := List.length_pos_of_mem ha
      simp only [List.length_cons]
      omega
  have h2 := key (l := List.range n) (k := O) List.nodup_range (fun x hx => ha x (List.mem_range.1 hx))
  simp at h2
  omega
theorem ordI_came (lt : Nat → Nat → Bool) : ∀ j, Came pr n (ordI lt pr n j)
  | 0 => Came.nil
  | j + 1 => by
    rw [ordI]
    split
    · rename_i b hb
      have := bestI_lt hb
      exact (ordI_came lt j).next this.1 this.2
    · exact ordI_came lt j
theorem ordI_step (A : Acyc pr n) {j : Nat} (hj : (ordI lt pr n j).length = j) (hn : j < n) : ∃ b, bestI lt pr n (ordI lt pr n j) n = some b ∧ b < n ∧ okI pr n (ordI lt pr n j) b := by
  have hC := ordI_came (pr := pr) (n := n) lt j
  have hex : ∃ i, i < n ∧ i ∉ ordI lt pr n j := Classical.byContradiction fun hne => by
    have := hC.full (fun i hi => Classical.byContradiction fun h => hne ⟨i, hi, h⟩)
    omega
  obtain ⟨i, hi, hok⟩ := A.ex hex
  cases hb : bestI lt pr n (ordI lt pr n j) n with
  | none => exact absurd hok (bestI_none hb i hi)
  | some b => exact ⟨b, rfl, bestI_lt hb⟩
theorem ordI_len (A : Acyc pr n) : ∀ j, j ≤ n → (ordI lt pr n j).length = j
  | 0, _ => rfl
  | j + 1, h => by
    obtain ⟨b, hb, _⟩ := ordI_step (lt := lt) A (ordI_len A j (by omega)) (by omega)
    rw [ordI, hb]
    simp [ordI_len A j (by omega)]
theorem ordI_next (A : Acyc pr n) (S : SO lt n) {j x : Nat} (hx : x < n) (hok : okI pr n (ordI lt pr n j) x) (hm : ∀ y, y < n → okI pr n (ordI lt pr n j) y → lt y x = false) : ordI lt pr n (j + 1) = ordI lt pr n j ++ [x] := by
  rw [ordI, best_eq S hx hok hm]
/-! ## how many are waited for -/
def cnt (pr : Nat → Nat → Bool) (n : Nat) (O : List Nat) (i : Nat) : Nat := (List.range n).countP fun k => decide (k ≠ i) && pr i k && decide (k ∉ O)
theorem cnt_zero {i : Nat} : cnt pr n O i = 0 ↔ ∀ k, k < n → k = i ∨ k ∈ O ∨ pr i k = false := by
  unfold cnt
  rw [List.countP_eq_zero]
  constructor
  · intro h k hk
    have := h k (List.mem_range.2 hk)
    by_cases h1 : k = i
    · exact .inl h1
    · by_cases h2 : k ∈ O
      · exact .inr (.inl h2)
      · cases hp : pr i k with
        | false => exact .inr (.inr rfl)
        | true => simp [h1, h2, hp] at this
  · intro h k hk
    rcases h k (List.mem_range.1 hk) with h1 | h1 | h1
    · simp [h1]
    · simp [h1]
    · simp [h1]
theorem ok_cnt {i : Nat} : okI pr n O i ↔ i ∉ O ∧ cnt pr n O i = 0 := by rw [cnt_zero]; rfl
theorem cnt_same {i x : Nat} (h : x = i ∨ pr i x = false) : cnt pr n (O ++ [x]) i = cnt pr n O i := by
  unfold cnt
  apply List.countP_congr
  intro k _
  rcases h with h | h
  · subst h
    by_cases hk : k = x
    · simp [hk]
    · simp [hk]
  · by_cases hk : k = x
    · subst hk; simp [h]
    · simp [hk]
theorem cnt_less {i x : Nat} (hx : x < n) (hxi : x ≠ i) (hp : pr i x = true) (hn : x ∉ O) : cnt pr n (O ++ [x]) i + 1 = cnt pr n O i := by
  unfold cnt
  have key : ∀ {l : List Nat}, l.Nodup → x ∈ l → (l.countP fun k => decide (k ≠ i) && pr i k && decide (k ∉ O ++ [x])) + 1 = l.countP fun k => decide (k ≠ i) && pr i k && decide (k ∉ O) := by
    intro l
    induction l with
    | nil => intro _ h; cases h
    | cons a r ih =>
      intro hnd hm
      have h' := List.nodup_cons.1 hnd
      rw [List.countP_cons, List.countP_cons]
      by_cases e : a = x
      · subst e
        have : (r.countP fun k => decide (k ≠ i) && pr i k && decide (k ∉ O ++ [a])) = r.countP fun k => decide (k ≠ i) && pr i k && decide (k ∉ O) := by
          apply List.countP_congr
          intro k hk
          have : k ≠ a := fun e => h'.1 (by rw [← e]; exact hk)
          simp [this]
        rw [this]
        simp [hxi, hp, hn]
      · have hm' : x ∈ r := by
          rcases List.mem_cons.1 hm with h | h
          · exact absurd h.symm e
          · exact h
        have := ih h'.2 hm'
        have h2 : (decide (a ≠ i) && pr i a && decide (a ∉ O ++ [x])) = (decide (a ≠ i) && pr i a && decide (a ∉ O)) := by simp [e]
        rw [h2]
        omega
  exact key List.nodup_range (List.mem_range.2 hx)
theorem cnt_le {i : Nat} : cnt pr n O i ≤ n := by
  unfold cnt
  have := List.countP_le_length (p := fun k => decide (k ≠ i) && pr i k && decide (k ∉ O)) (l := List.range n)
  simpa using this
/-- who waits for k -/
def lat (pr : Nat → Nat → Bool) (i k : Nat) : List Nat := (List.range i).filter fun y => decide (y ≠ k) && pr y k
theorem lat_mem {i k y : Nat} : y ∈ lat pr i k ↔ y < i ∧ y ≠ k ∧ pr y k = true := by
  simp [lat, List.mem_filter, List.mem_range]
theorem lat_nd (pr : Nat → Nat → Bool) (i k : Nat) : (lat pr i k).Nodup := List.Pairwise.filter _ List.nodup_range
theorem lat_len (pr : Nat → Nat → Bool) (i k : Nat) : (lat pr i k).length ≤ i := by
  have := List.length_filter_le (fun y => decide (y ≠ k) && pr y k) (List.range i)
  simpa [lat] using this
theorem lat_succ {i k : Nat} : lat pr (i + 1) k = lat pr i k ++ if decide (i ≠ k) && pr i k then [i] else [] := by
  unfold lat
  rw [List.range_succ, List.filter_append]
  congr 1
  simp only [List.filter_cons, List.filter_nil]
/-- the row of those that may come, in the midst of a step -/
structure Rdy (pr : Nat → Nat → Bool) (n : Nat) (O : List Nat) (x : Nat) (D h : List Nat) : Prop where
  nd : h.Nodup
  mem : ∀ i, i ∈ h ↔ i < n ∧ ((okI pr n O i ∧ i ≠ x) ∨ (i ∈ D ∧ okI pr n (O ++ [x]) i))
theorem Rdy.pop {x : Nat} {h hh : List Nat} (hn : h.Nodup) (hm : ∀ i, i ∈ h ↔ i < n ∧ okI pr n O i) (hp : (x :: hh).Perm h) : Rdy pr n O x [] hh := by
  have h1 := List.nodup_cons.1 (hp.nodup_iff.2 hn)
  refine ⟨h1.2, fun i => ?_⟩
  have h2 : i ∈ h ↔ i = x ∨ i ∈ hh := by rw [← hp.mem_iff]; simp
  rw [hm] at h2
  constructor
  · intro hi
    have := h2.2 (.inr hi)
    exact ⟨this.1, .inl ⟨this.2, fun e => h1.1 (e ▸ hi)⟩⟩
  · rintro ⟨hi, ⟨hok, hne⟩ | ⟨hD, _⟩⟩
    · rcases h2.1 ⟨hi, hok⟩ with h3 | h3
      · exact absurd h3 hne
      · exact h3
    · cases hD
theorem ok_not {x y : Nat} (hx : x < n) (hxO : x ∉ O) (hne : y ≠ x) (hp : pr y x = true) : ¬ okI pr n O y := fun h => by
  rcases h.2 x hx with h1 | h1 | h1
  · exact hne h1.symm
  · exact hxO h1
  · rw [h1] at hp; cases hp
theorem Rdy.skip {x y : Nat} {D h : List Nat} (R : Rdy pr n O x D h) (hc : cnt pr n (O ++ [x]) y ≠ 0) : Rdy pr n O x (D ++ [y]) h := by
  refine ⟨R.nd, fun i => ?_⟩
  rw [R.mem]
  constructor
  · rintro ⟨hi, h1 | ⟨h1, h2⟩⟩
    · exact ⟨hi, .inl h1⟩
    · exact ⟨hi, .inr ⟨List.mem_append_left _ h1, h2⟩⟩
  · rintro ⟨hi, h1 | ⟨h1, h2⟩⟩
    · exact ⟨hi, .inl h1⟩
    · rcases List.mem_append.1 h1 with h3 | h3
      · exact ⟨hi, .inr ⟨h3, h2⟩⟩
      · simp at h3
        subst h3
        exact absurd (ok_cnt.1 h2).2 hc
theorem Rdy.push {x y : Nat} {D h hh : List Nat} (R : Rdy pr n O x D h) (hC : Came pr n O) (hx : x < n) (hxO : x ∉ O) (hy : y < n) (hne : y ≠ x) (hp : pr y x = true) (hc : cnt pr n (O ++ [x]) y = 0) (hD : y ∉ D) (hh_ : hh.Perm (h ++ [y])) : Rdy pr n O x (D ++ [y]) hh := by
  have hnO : y ∉ O ++ [x] := fun hm => by
    rcases List.mem_append.1 hm with h1 | h1
    · exact hxO (hC.cl y h1 x hx (Ne.symm hne) hp)
    · simp at h1; exact hne h1
  have hnh : y ∉ h := fun hm => by
    rcases ((R.mem y).1 hm).2 with h1 | h1
    · exact ok_not hx hxO hne hp h1.1
    · exact hD h1.1
  refine ⟨hh_.nodup_iff.2 ?_, fun i => ?_⟩
  · rw [List.nodup_append]
    refine ⟨R.nd, by simp, fun a ha b hb => ?_⟩
    simp only [List.mem_singleton] at hb
    subst hb
    intro e
    subst e
    exact hnh ha
  · rw [hh_.mem_iff, List.mem_append, R.mem]
    constructor
    · rintro (⟨hi, h1 | ⟨h1, h2⟩⟩ | h1)
      · exact ⟨hi, .inl h1⟩
      · exact ⟨hi, .inr ⟨List.mem_append_left _ h1, h2⟩⟩
      · simp at h1
        subst h1
        exact ⟨hy, .inr ⟨by simp, ok_cnt.2 ⟨hnO, hc⟩⟩⟩
    · rintro ⟨hi, h1 | ⟨h1, h2⟩⟩
      · exact .inl ⟨hi, .inl h1⟩
      · rcases List.mem_append.1 h1 with h3 | h3
        · exact .inl ⟨hi, .inr ⟨h3, h2⟩⟩
        · exact .inr h3
theorem Rdy.done {x : Nat} {h : List Nat} (R : Rdy pr n O x (lat pr n x) h) : h.Nodup ∧ ∀ i, i ∈ h ↔ i < n ∧ okI pr n (O ++ [x]) i := by
  refine ⟨R.nd, fun i => ?_⟩
  rw [R.mem]
  constructor
  · rintro ⟨hi, ⟨h1, h2⟩ | ⟨_, h2⟩⟩
    · refine ⟨hi, fun hm => ?_, fun k hk => ?_⟩
      · rcases List.mem_append.1 hm with h3 | h3
        · exact h1.1 h3
        · simp at h3; exact h2 h3
      · rcases h1.2 k hk with h3 | h3 | h3
        · exact .inl h3
        · exact .inr (.inl (List.mem_append_left _ h3))
        · exact .inr (.inr h3)
    · exact ⟨hi, h2⟩
  · rintro ⟨hi, h1⟩
    have hne : i ≠ x := fun e => h1.1 (by simp [e])
    refine ⟨hi, ?_⟩
    by_cases hl : pr i x = true
    · exact .inr ⟨lat_mem.2 ⟨hi, hne, hl⟩, h1⟩
    · refine .inl ⟨⟨fun hm => h1.1 (List.mem_append_left _ hm), fun k hk => ?_⟩, hne⟩
      rcases h1.2 k hk with h3 | h3 | h3
      · exact .inl h3
      · rcases List.mem_append.1 h3 with h4 | h4
        · exact .inr (.inl h4)
        · simp at h4
          subst h4
          exact .inr (.inr (Bool.eq_false_iff.2 hl))
      · exact .inr (.inr h3)
theorem Rdy.start (hn : ∀ h : List Nat, True) {h : List Nat} (h1 : h.Nodup) (h2 : ∀ i, i ∈ h ↔ i < n ∧ cnt pr n [] i = 0) : ∀ i, i ∈ h ↔ i < n ∧ okI pr n [] i := fun i => by
  rw [h2, ok_cnt]
  simp
/-- none may come any more: all have -/
theorem all_came (A : Acyc pr n) (hm : ∀ i, ¬ (i < n ∧ okI pr n O i)) : ∀ i, i < n → i ∈ O := fun i hi => Classical.byContradiction fun h => by
  obtain ⟨k, hk, hok⟩ := A.ex ⟨i, hi, h⟩
  exact hm k ⟨hk, hok⟩
/-- how many of those met so far i waits for -/
def met (n : Nat) (id : Nat → Str) (Dn : Str → Bool) (i : Nat) : Nat := (List.range n).countP fun k => decide (k ≠ i) && Dn (id k)
theorem met_all {id : Nat → Str} {Dn : Str → Bool} {i : Nat} (h : ∀ k, k < n → Dn (id k) = pr i k) : met n id Dn i = cnt pr n [] i := by
  unfold met cnt
  apply List.countP_congr
  intro k hk
  rw [h k (List.mem_range.1 hk)]
  simp
theorem met_none {id : Nat → Str} {Dn : Str → Bool} {i : Nat} (h : ∀ k, k < n → Dn (id k) = false) : met n id Dn i = 0 := by
  unfold met
  rw [List.countP_eq_zero]
  intro k hk
  simp [h k (List.mem_range.1 hk)]
theorem met_le {id : Nat → Str} {Dn : Str → Bool} {i : Nat} : met n id Dn i ≤ n := by
  unfold met
  have := List.countP_le_length (p := fun k => decide (k ≠ i) && Dn (id k)) (l := List.range n)
  simpa using this
end
/-! ## the graph's own way of standing behind -/
section
variable (m : Gm) (ids : List Str)
abbrev nm (i : Nat) : Str := ids[i]?.getD []
def prG (i k : Nat) : Bool := decide (nm ids k ∈ past m [nm ids i])
/-- where a name stands in the graph -/
def posG (x : Str) : Nat := m.keys.idxOf x
end
theorem ahd_pos {m : Gm} (h : GWf m) {x z : Str} (hx : x ∈ m.ahd z) : posG m x < posG m z := by
  unfold Gm.ahd at hx
  cases hl : look m z with
  | none => rw [hl] at hx; simp at hx
  | some l =>
    rw [hl] at hx
    obtain ⟨k, hk, hpk⟩ := List.mem_iff_getElem.1 (look_some hl)
    have hk' : m[k]? = some (z, l) := by rw [List.getElem?_eq_getElem hk, hpk]
    obtain ⟨i, q, hik, hq, e⟩ := h.back k _ hk' x hx
    have hpos : ∀ {j : Nat} {p : Str × List Str}, m[j]? = some p → posG m p.1 = j := fun {j p} hj => by
      have hjl := (List.getElem?_eq_some_iff.1 hj).1
      have hin : p.1 ∈ m.keys := List.mem_map.2 ⟨p, List.mem_of_getElem? hj, rfl⟩
      have h1 : m.keys.idxOf p.1 < m.keys.length := List.idxOf_lt_length_of_mem hin
      have h2 : m.keys[m.keys.idxOf p.1]? = some p.1 := by rw [List.getElem?_eq_getElem h1, List.getElem_idxOf h1]
      exact nodup_at h.nodup h2 (by simp [Gm.keys, hj])
    have e1 := hpos hk'
    have e2 := hpos hq
    subst e
    simp only at e1
    rw [e1, e2]
    exact hik
theorem reach_pos {m : Gm} (h : GWf m) {x z : Str} (r : Reach m [z] x) : x = z ∨ posG m x < posG m z := by
  induction r with
  | base h1 _ => simp at h1; exact .inl h1
  | @step x y _ hx ih =>
    have := ahd_pos h hx
    rcases ih with rfl | ih
    · exact .inr this
    · exact .inr (by omega)
theorem prG_acyc {m : Gm} (h : GWf m) {ids : List Str} (hn : ids.Nodup) : Acyc (prG m ids) ids.length := by
  refine ⟨fun i => posG m (nm ids i), fun i k hi hk hki hp => ?_⟩
  have := (past_mem h).1 (of_decide_eq_true hp)
  rcases reach_pos h this with e | e
  · exfalso
    refine hki (nodup_at hn (x := nm ids k) ?_ ?_)
    · simp [nm, List.getElem?_eq_getElem hk]
    · rw [e]; simp [nm, List.getElem?_eq_getElem hi]
  · exact e
/-- what Order answers -/
def rnk (rks : List Rk) (i : Nat) : Rk := rks[i]?.getD ⟨0, 0, []⟩
abbrev ltG (ids : List Str) (rks : List Rk) (i j : Nat) : Bool := rlt (rnk rks i) (nm ids i) (rnk rks j) (nm ids j)
def ordG (m : Gm) (ids : List Str) (rks : List Rk) : List Str × Int :=
  if ids.length ≠ rks.length then ([], 1) else if ¬ ids.Nodup then ([], 6) else if ∃ x ∈ ids, x ∉ m.keys then ([], 40)
  else ((ordI (ltG ids rks) (prG m ids) ids.length ids.length).map (nm ids), 0)
theorem nm_at {ids : List Str} {i : Nat} {x : Str} (h : ids[i]? = some x) : nm ids i = x := by simp [nm, h]
theorem nm_inj {ids : List Str} (hn : ids.Nodup) {i j : Nat} (hi : i < ids.length) (hj : j < ids.length) (e : nm ids i = nm ids j) : i = j :=
  nodup_at hn (x := nm ids i) (by simp [nm, List.getElem?_eq_getElem hi]) (by rw [e]; simp [nm, List.getElem?_eq_getElem hj])
theorem ltG_so {ids : List Str} {rks : List Rk} (hn : ids.Nodup) : SO (ltG ids rks) ids.length :=
  ⟨fun i => rlt_irrefl _ _, fun i j k h1 h2 => rlt_trans h1 h2, fun i j hi hj hij => rlt_total fun e => hij (nm_inj hn hi hj e)⟩
end Go.Proofs.Ythmohmpalbnjoaa.V
