/-
  A part of the proof: walks of functions. No condition of its own.
-/
import Derived.Test.YtkhbnhdlelmbnaaDoorM18
set_option linter.unusedVariables false
set_option linter.unusedSimpArgs false
set_option maxRecDepth 10000
namespace Go.Proofs.YtkhbnhdlelmbnaaDoor.V
open Go Go.Proofs
theorem ent62 : Ent Tryd.prog 62 := Ent.of Tryd.func62 (by kernel_rfl) (by kernel_rfl)
theorem ent64 : Ent Tryd.prog 64 := Ent.of Tryd.func64 (by kernel_rfl) (by kernel_rfl)
theorem sl31 : slB Tryd.prog 31 58 3 48 = true := by kernel_rfl
theorem ag58 : agB Tryd.prog 58 3 = true := by kernel_rfl
theorem zv58 : zvB Tryd.prog 58 ([S [], S [], S []]) := by unfold zvB; kernel_rfl
theorem fd58_0 : fdB Tryd.prog 58 0 0 1 = true := by kernel_rfl
theorem fd58_1 : fdB Tryd.prog 58 1 1 1 = true := by kernel_rfl
theorem ent63 : Ent Tryd.prog 63 := Ent.of Tryd.func63 (by kernel_rfl) (by kernel_rfl)
theorem fd58_2 : fdB Tryd.prog 58 2 2 1 = true := by kernel_rfl
theorem ent27 : Ent Tryd.prog 27 := Ent.of Tryd.func27 (by kernel_rfl) (by kernel_rfl)
theorem c_event (w : World) (s : Str) (hs : s.length ≤ 140737488351232) : Calls Tryd.prog 30 [S s].toArray w (Ret fun u w' => u = .bool (eventB s) ∧ Mod [] w w') := by
  refine enter Tryd.func30 rfl rfl rfl (l := [(0, _)]) ⟨rfl, trivial⟩ ?_
  have E := Mod.refl [] w
  refine c_seq fun K1 hK1 => ?_
  refine c_region ?_
  refine sv (o_as rfl) rfl ?_
  refine l_nil ?_
  refine e_K (hK1 _ _ _ _ ?_)
  refine c_seq fun K2 hK2 => ?_
  refine c_seq fun K3 hK3 => ?_
  by_cases hk0 : s = []
  · skip
    refine c_region ?_
    refine sv (o_mv rfl) rfl ?_
    refine sv (o_seq rfl rfl) rfl ?_
    refine sv (o_mv rfl) rfl ?_
    refine sn rfl (fun e_ => absurd ((decide_eq_true hk0).symm.trans e_) (by decide)) rfl ?_
    refine sn rfl (fun e_ => absurd ((decide_eq_true hk0).symm.trans e_) (by decide)) rfl ?_
    refine sn rfl (fun e_ => absurd ((decide_eq_true hk0).symm.trans e_) (by decide)) rfl ?_
    refine sv (o_pickT (decide_eq_true hk0) rfl rfl) rfl ?_
    refine l_nil ?_
    refine e_K (hK3 _ _ _ _ ?_)
    refine c_true rfl ?_
    have hF : eventB s = false := by subst hk0; simp [eventB]
    refine c_seq fun K4 hK4 => ?_
    refine c_region ?_
    refine sv (o_as rfl) rfl ?_
    refine l_nil ?_
    refine e_K (hK4 _ _ _ _ ?_)
    refine c_ret ?_
    refine e_then (by simp) ?_
    exact ret1 rfl rfl ⟨by rw [hF], E⟩
  · skip
    obtain ⟨b0, r, rfl⟩ : ∃ b r, s = b :: r := List.exists_cons_of_ne_nil hk0
    by_cases hk1 : (b0.toNat : Int) ≠ 36
    · skip
      refine c_region ?_
      refine sv (o_mv rfl) rfl ?_
      refine sv (o_seq rfl rfl) rfl ?_
      refine sv (o_mv rfl) rfl ?_
      refine sg rfl (decide_eq_false hk0) (o_mv rfl) rfl ?_
      refine sg rfl (decide_eq_false hk0) (o_sidx Tryd.underlying9 rfl rfl (by omega) rfl) rfl ?_
      refine sg rfl (decide_eq_false hk0) (o_neq rfl rfl) rfl ?_
      refine sv (o_pickF (decide_eq_false hk0) rfl rfl) rfl ?_
      refine l_nil ?_
      refine e_K (hK3 _ _ _ _ ?_)
      refine c_if rfl (fun h11 => ?_) (fun h11 => absurd hk1 h11)
      have hF : eventB (b0 :: r) = false := by
        have h_ : b0 ≠ 36 := fun h => hk1 (by rw [h]; rfl)
        simp [eventB, h_]
      refine c_seq fun K5 hK5 => ?_
      refine c_region ?_
      refine sv (o_as rfl) rfl ?_
      refine l_nil ?_
      refine e_K (hK5 _ _ _ _ ?_)
      refine c_ret ?_
      refine e_then (by simp) ?_
      exact ret1 rfl rfl ⟨by rw [hF], E⟩
    · skip
      refine c_region ?_
      refine sv (o_mv rfl) rfl ?_
      refine sv (o_seq rfl rfl) rfl ?_
      refine sv (o_mv rfl) rfl ?_
      refine sg rfl (decide_eq_false hk0) (o_mv rfl) rfl ?_
      refine sg rfl (decide_eq_false hk0) (o_sidx Tryd.underlying9 rfl rfl (by omega) rfl) rfl ?_
      refine sg rfl (decide_eq_false hk0) (o_neq rfl rfl) rfl ?_
      refine sv (o_pickF (decide_eq_false hk0) rfl rfl) rfl ?_
      refine l_nil ?_
      refine e_K (hK3 _ _ _ _ ?_)
      refine c_if rfl (fun h11 => absurd h11 hk1) (fun h11 => ?_)
      have h36 : b0 = 36 := u8_eq (Classical.not_not.1 hk1)
      have hh : decide ((b0 :: r).head? = some 36) = true := by simp [h36]
      refine c_skip ?_
      refine e_K (hK2 _ _ _ _ ?_)
      refine c_seq fun K6 hK6 => ?_
      refine c_region ?_
      refine sv (o_mv rfl) rfl ?_
      refine sv (o_ssfrom (n := 1) Tryd.underlying9 rfl rfl (by simp)) rfl ?_
      refine sc (o_call ent62 rfl) (c_decode _ ((b0 :: r).drop 1) true (by simp only [List.length_drop]; omega)) rfl fun v_ w1 h_ => ?_
      obtain ⟨⟨dv, bs, o, rfl, ho, hO, hbs, _⟩, E_⟩ := h_
      replace E := E.then E_
      obtain ⟨ad1, cp1, rfl, hcp1, hcp2⟩ := hO.form
      refine sv (o_mv rfl) rfl ?_
      refine sv (o_ext rfl rfl) rfl ?_
      refine sv (o_ext rfl rfl) rfl ?_
      refine sv (o_as rfl) rfl ?_
      refine sv (o_as rfl) rfl ?_
      refine l_nil ?_
      refine e_K (hK6 _ _ _ _ ?_)
      refine c_seq fun K7 hK7 => ?_
      by_cases hk0 : (o) = true
      · skip
        have e32 : decide (((b0 :: r).drop 1).length * 6 / 8 = 32) = decide ((bs.length : Int) = 32) := by
          rw [decide_eq_decide]
          rw [hk0] at ho
          rw [← ho, if_pos rfl] at hbs
          omega
        by_cases hk1 : (bs.length : Int) = 32
        · skip
          refine c_region ?_
          refine sv (o_mv rfl) rfl ?_
          refine sv (o_mv rfl) rfl ?_
          refine sg rfl (hk0) (o_mv rfl) rfl ?_
          refine sg rfl (hk0) (o_len Tryd.underlying45 rfl) rfl ?_
          refine sg rfl (hk0) (o_eql rfl rfl) rfl ?_
          refine sv (o_pickT (hk0) rfl rfl) rfl ?_
          refine sv (o_as rfl) rfl ?_
          refine l_nil ?_
          refine e_K (hK7 _ _ _ _ ?_)
          refine c_ret ?_
          exact ret1 rfl rfl ⟨congrArg Value.bool (by rw [eventB, hh, ← ho, e32]; simp only [hk0, decide_eq_true hk1, Bool.true_and, Bool.and_true, Bool.false_and, Bool.and_false, Bool.true_or, Bool.or_true, Bool.false_or, Bool.or_false, Bool.not_true, Bool.not_false]), E⟩
        · skip
          refine c_region ?_
          refine sv (o_mv rfl) rfl ?_
          refine sv (o_mv rfl) rfl ?_
          refine sg rfl (hk0) (o_mv rfl) rfl ?_
          refine sg rfl (hk0) (o_len Tryd.underlying45 rfl) rfl ?_
          refine sg rfl (hk0) (o_eql rfl rfl) rfl ?_
          refine sv (o_pickT (hk0) rfl rfl) rfl ?_
          refine sv (o_as rfl) rfl ?_
          refine l_nil ?_
          refine e_K (hK7 _ _ _ _ ?_)
          refine c_ret ?_
          exact ret1 rfl rfl ⟨congrArg Value.bool (by rw [eventB, hh, ← ho, e32]; simp only [hk0, decide_eq_false hk1, Bool.true_and, Bool.and_true, Bool.false_and, Bool.and_false, Bool.true_or, Bool.or_true, Bool.false_or, Bool.or_false, Bool.not_true, Bool.not_false]), E⟩
      · skip
        refine c_region ?_
        refine sv (o_mv rfl) rfl ?_
        refine sv (o_mv rfl) rfl ?_
        refine sn rfl (fun e_ => absurd ((Bool.eq_false_iff.2 hk0).symm.trans e_) (by decide)) rfl ?_
        refine sn rfl (fun e_ => absurd ((Bool.eq_false_iff.2 hk0).symm.trans e_) (by decide)) rfl ?_
        refine sn rfl (fun e_ => absurd ((Bool.eq_false_iff.2 hk0).symm.trans e_) (by decide)) rfl ?_
        refine sv (o_pickF (Bool.eq_false_iff.2 hk0) rfl rfl) rfl ?_
        refine sv (o_as rfl) rfl ?_
        refine l_nil ?_
        refine e_K (hK7 _ _ _ _ ?_)
        refine c_ret ?_
        exact ret1 rfl rfl ⟨congrArg Value.bool (by rw [eventB, hh, ← ho]; simp only [Bool.eq_false_iff.2 hk0, Bool.true_and, Bool.and_true, Bool.false_and, Bool.and_false, Bool.true_or, Bool.or_true, Bool.false_or, Bool.or_false, Bool.not_true, Bool.not_false]), E⟩

theorem c_eventR (w : World) (s : Str) (hs : s.length ≤ 140737488351232) : Calls Tryd.prog 31 [S s].toArray w (Ret fun u w' => u = .bool (eventB s) ∧ Mod [] w w') := by
  refine enter Tryd.func31 rfl rfl rfl (l := [(0, _)]) ⟨rfl, trivial⟩ ?_
  have E := Mod.refl [] w
  refine c_seq fun K1 hK1 => ?_
  refine c_region ?_
  refine sv (o_as rfl) rfl ?_
  refine l_nil ?_
  refine e_K (hK1 _ _ _ _ ?_)
  refine c_seq fun K2 hK2 => ?_
  refine c_seq fun K3 hK3 => ?_
  by_cases hk0 : s = []
  · skip
    refine c_region ?_
    refine sv (o_mv rfl) rfl ?_
    refine sv (o_seq rfl rfl) rfl ?_
    refine sv (o_mv rfl) rfl ?_
    refine sn rfl (fun e_ => absurd ((decide_eq_true hk0).symm.trans e_) (by decide)) rfl ?_
    refine sn rfl (fun e_ => absurd ((decide_eq_true hk0).symm.trans e_) (by decide)) rfl ?_
    refine sn rfl (fun e_ => absurd ((decide_eq_true hk0).symm.trans e_) (by decide)) rfl ?_
    refine sv (o_pickT (decide_eq_true hk0) rfl rfl) rfl ?_
    refine l_nil ?_
    refine e_K (hK3 _ _ _ _ ?_)
    refine c_true rfl ?_
    have hF : eventB s = false := by subst hk0; simp [eventB]
    refine c_seq fun K4 hK4 => ?_
    refine c_region ?_
    refine sv (o_as rfl) rfl ?_
    refine l_nil ?_
    refine e_K (hK4 _ _ _ _ ?_)
    refine c_ret ?_
    refine e_then (by simp) ?_
    exact ret1 rfl rfl ⟨by rw [hF], E⟩
  · skip
    obtain ⟨b0, r, rfl⟩ : ∃ b r, s = b :: r := List.exists_cons_of_ne_nil hk0
    by_cases hk1 : (b0.toNat : Int) ≠ 36
    · skip
      refine c_region ?_
      refine sv (o_mv rfl) rfl ?_
      refine sv (o_seq rfl rfl) rfl ?_
      refine sv (o_mv rfl) rfl ?_
      refine sg rfl (decide_eq_false hk0) (o_mv rfl) rfl ?_
      refine sg rfl (decide_eq_false hk0) (o_sidx Tryd.underlying9 rfl rfl (by omega) rfl) rfl ?_
      refine sg rfl (decide_eq_false hk0) (o_neq rfl rfl) rfl ?_
      refine sv (o_pickF (decide_eq_false hk0) rfl rfl) rfl ?_
      refine l_nil ?_
      refine e_K (hK3 _ _ _ _ ?_)
      refine c_if rfl (fun h11 => ?_) (fun h11 => absurd hk1 h11)
      have hF : eventB (b0 :: r) = false := by
        have h_ : b0 ≠ 36 := fun h => hk1 (by rw [h]; rfl)
        simp [eventB, h_]
      refine c_seq fun K5 hK5 => ?_
      refine c_region ?_
      refine sv (o_as rfl) rfl ?_
      refine l_nil ?_
      refine e_K (hK5 _ _ _ _ ?_)
      refine c_ret ?_
      refine e_then (by simp) ?_
      exact ret1 rfl rfl ⟨by rw [hF], E⟩
    · skip
      refine c_region ?_
      refine sv (o_mv rfl) rfl ?_
      refine sv (o_seq rfl rfl) rfl ?_
      refine sv (o_mv rfl) rfl ?_
      refine sg rfl (decide_eq_false hk0) (o_mv rfl) rfl ?_
      refine sg rfl (decide_eq_false hk0) (o_sidx Tryd.underlying9 rfl rfl (by omega) rfl) rfl ?_
      refine sg rfl (decide_eq_false hk0) (o_neq rfl rfl) rfl ?_
      refine sv (o_pickF (decide_eq_false hk0) rfl rfl) rfl ?_
      refine l_nil ?_
      refine e_K (hK3 _ _ _ _ ?_)
      refine c_if rfl (fun h11 => absurd h11 hk1) (fun h11 => ?_)
      have h36 : b0 = 36 := u8_eq (Classical.not_not.1 hk1)
      have hh : decide ((b0 :: r).head? = some 36) = true := by simp [h36]
      refine c_skip ?_
      refine e_K (hK2 _ _ _ _ ?_)
      refine c_seq fun K6 hK6 => ?_
      refine c_region ?_
      refine sv (o_mv rfl) rfl ?_
      refine sv (o_ssfrom (n := 1) Tryd.underlying9 rfl rfl (by simp)) rfl ?_
      refine sc (o_call ent64 rfl) (c_decodeR _ ((b0 :: r).drop 1) true (by simp only [List.length_drop]; omega)) rfl fun v_ w1 h_ => ?_
      obtain ⟨⟨dv, bs, o, rfl, ho, hO, hbs, _⟩, E_⟩ := h_
      replace E := E.then E_
      obtain ⟨ad1, cp1, rfl, hcp1, hcp2⟩ := hO.form
      refine sv (o_mv rfl) rfl ?_
      refine sv (o_ext rfl rfl) rfl ?_
      refine sv (o_ext rfl rfl) rfl ?_
      refine sv (o_as rfl) rfl ?_
      refine sv (o_as rfl) rfl ?_
      refine l_nil ?_
      refine e_K (hK6 _ _ _ _ ?_)
      refine c_seq fun K7 hK7 => ?_
      by_cases hk0 : (o) = true
      · skip
        have e32 : decide (((b0 :: r).drop 1).length * 6 / 8 = 32) = decide ((bs.length : Int) = 32) := by
          rw [decide_eq_decide]
          rw [hk0] at ho
          rw [← ho, if_pos rfl] at hbs
          omega
        by_cases hk1 : (bs.length : Int) = 32
        · skip
          refine c_region ?_
          refine sv (o_mv rfl) rfl ?_
          refine sv (o_mv rfl) rfl ?_
          refine sg rfl (hk0) (o_mv rfl) rfl ?_
          refine sg rfl (hk0) (o_len Tryd.underlying45 rfl) rfl ?_
          refine sg rfl (hk0) (o_eql rfl rfl) rfl ?_
          refine sv (o_pickT (hk0) rfl rfl) rfl ?_
          refine sv (o_as rfl) rfl ?_
          refine l_nil ?_
          refine e_K (hK7 _ _ _ _ ?_)
          refine c_ret ?_
          exact ret1 rfl rfl ⟨congrArg Value.bool (by rw [eventB, hh, ← ho, e32]; simp only [hk0, decide_eq_true hk1, Bool.true_and, Bool.and_true, Bool.false_and, Bool.and_false, Bool.true_or, Bool.or_true, Bool.false_or, Bool.or_false, Bool.not_true, Bool.not_false]), E⟩
        · skip
          refine c_region ?_
          refine sv (o_mv rfl) rfl ?_
          refine sv (o_mv rfl) rfl ?_
          refine sg rfl (hk0) (o_mv rfl) rfl ?_
          refine sg rfl (hk0) (o_len Tryd.underlying45 rfl) rfl ?_
          refine sg rfl (hk0) (o_eql rfl rfl) rfl ?_
          refine sv (o_pickT (hk0) rfl rfl) rfl ?_
          refine sv (o_as rfl) rfl ?_
          refine l_nil ?_
          refine e_K (hK7 _ _ _ _ ?_)
          refine c_ret ?_
          exact ret1 rfl rfl ⟨congrArg Value.bool (by rw [eventB, hh, ← ho, e32]; simp only [hk0, decide_eq_false hk1, Bool.true_and, Bool.and_true, Bool.false_and, Bool.and_false, Bool.true_or, Bool.or_true, Bool.false_or, Bool.or_false, Bool.not_true, Bool.not_false]), E⟩
      · skip
        refine c_region ?_
        refine sv (o_mv rfl) rfl ?_
        refine sv (o_mv rfl) rfl ?_
        refine sn rfl (fun e_ => absurd ((Bool.eq_false_iff.2 hk0).symm.trans e_) (by decide)) rfl ?_
        refine sn rfl (fun e_ => absurd ((Bool.eq_false_iff.2 hk0).symm.trans e_) (by decide)) rfl ?_
        refine sn rfl (fun e_ => absurd ((Bool.eq_false_iff.2 hk0).symm.trans e_) (by decide)) rfl ?_
        refine sv (o_pickF (Bool.eq_false_iff.2 hk0) rfl rfl) rfl ?_
        refine sv (o_as rfl) rfl ?_
        refine l_nil ?_
        refine e_K (hK7 _ _ _ _ ?_)
        refine c_ret ?_
        exact ret1 rfl rfl ⟨congrArg Value.bool (by rw [eventB, hh, ← ho]; simp only [Bool.eq_false_iff.2 hk0, Bool.true_and, Bool.and_true, Bool.false_and, Bool.and_false, Bool.true_or, Bool.or_true, Bool.false_or, Bool.or_false, Bool.not_true, Bool.not_false]), E⟩

theorem c_bytes (w : World) (s : Str) (n : Nat) (hs : s.length ≤ 140737488351232) : Calls Tryd.prog 27 [S s, .int .i64 (n : Int)].toArray w (Ret fun u w' => u = .bool (bytesB s n) ∧ Mod [] w w') := by
  refine enter Tryd.func27 rfl rfl rfl (l := [(0, _), (1, _)]) ⟨rfl, rfl, trivial⟩ ?_
  have E := Mod.refl [] w
  refine c_seq fun K1 hK1 => ?_
  refine c_region ?_
  refine sv (o_as rfl) rfl ?_
  refine l_nil ?_
  refine e_K (hK1 _ _ _ _ ?_)
  refine c_seq fun K2 hK2 => ?_
  refine c_region ?_
  refine sv (o_mv rfl) rfl ?_
  refine sc (o_call ent62 rfl) (c_decode _ (s) false hs) rfl fun v_ w1 h_ => ?_
  obtain ⟨⟨dv, bs, o, rfl, ho, hO, hbs, _⟩, E_⟩ := h_
  replace E := E.then E_
  obtain ⟨ad1, cp1, rfl, hcp1, hcp2⟩ := hO.form
  refine sv (o_mv rfl) rfl ?_
  refine sv (o_ext rfl rfl) rfl ?_
  refine sv (o_ext rfl rfl) rfl ?_
  refine sv (o_as rfl) rfl ?_
  refine sv (o_as rfl) rfl ?_
  refine l_nil ?_
  refine e_K (hK2 _ _ _ _ ?_)
  refine c_seq fun K3 hK3 => ?_
  by_cases hk0 : (o) = true
  · skip
    have en : decide (s.length * 6 / 8 = n) = decide ((bs.length : Int) = (n : Int)) := by
      rw [decide_eq_decide]
      rw [hk0] at ho
      rw [← ho, if_pos rfl] at hbs
      omega
    by_cases hk1 : (bs.length : Int) = (n : Int)
    · skip
      refine c_region ?_
      refine sv (o_mv rfl) rfl ?_
      refine sv (o_mv rfl) rfl ?_
      refine sg rfl (hk0) (o_mv rfl) rfl ?_
      refine sg rfl (hk0) (o_len Tryd.underlying45 rfl) rfl ?_
      refine sg rfl (hk0) (o_mv rfl) rfl ?_
      refine sg rfl (hk0) (o_eql rfl rfl) rfl ?_
      refine sv (o_pickT (hk0) rfl rfl) rfl ?_
      refine sv (o_as rfl) rfl ?_
      refine l_nil ?_
      refine e_K (hK3 _ _ _ _ ?_)
      refine c_ret ?_
      exact ret1 rfl rfl ⟨congrArg Value.bool (by rw [bytesB, ← ho, en]; simp only [hk0, decide_eq_true hk1, Bool.true_and, Bool.and_true, Bool.false_and, Bool.and_false, Bool.true_or, Bool.or_true, Bool.false_or, Bool.or_false, Bool.not_true, Bool.not_false]), E⟩
    · skip
      refine c_region ?_
      refine sv (o_mv rfl) rfl ?_
      refine sv (o_mv rfl) rfl ?_
      refine sg rfl (hk0) (o_mv rfl) rfl ?_
      refine sg rfl (hk0) (o_len Tryd.underlying45 rfl) rfl ?_
      refine sg rfl (hk0) (o_mv rfl) rfl ?_
      refine sg rfl (hk0) (o_eql rfl rfl) rfl ?_
      refine sv (o_pickT (hk0) rfl rfl) rfl ?_
      refine sv (o_as rfl) rfl ?_
      refine l_nil ?_
      refine e_K (hK3 _ _ _ _ ?_)
      refine c_ret ?_
      exact ret1 rfl rfl ⟨congrArg Value.bool (by rw [bytesB, ← ho, en]; simp only [hk0, decide_eq_false hk1, Bool.true_and, Bool.and_true, Bool.false_and, Bool.and_false, Bool.true_or, Bool.or_true, Bool.false_or, Bool.or_false, Bool.not_true, Bool.not_false]), E⟩
  · skip
    refine c_region ?_
    refine sv (o_mv rfl) rfl ?_
    refine sv (o_mv rfl) rfl ?_
    refine sn rfl (fun e_ => absurd ((Bool.eq_false_iff.2 hk0).symm.trans e_) (by decide)) rfl ?_
    refine sn rfl (fun e_ => absurd ((Bool.eq_false_iff.2 hk0).symm.trans e_) (by decide)) rfl ?_
    refine sn rfl (fun e_ => absurd ((Bool.eq_false_iff.2 hk0).symm.trans e_) (by decide)) rfl ?_
    refine sn rfl (fun e_ => absurd ((Bool.eq_false_iff.2 hk0).symm.trans e_) (by decide)) rfl ?_
    refine sv (o_pickF (Bool.eq_false_iff.2 hk0) rfl rfl) rfl ?_
    refine sv (o_as rfl) rfl ?_
    refine l_nil ?_
    refine e_K (hK3 _ _ _ _ ?_)
    refine c_ret ?_
    exact ret1 rfl rfl ⟨congrArg Value.bool (by rw [bytesB, ← ho]; simp only [Bool.eq_false_iff.2 hk0, Bool.true_and, Bool.and_true, Bool.false_and, Bool.and_false, Bool.true_or, Bool.or_true, Bool.false_or, Bool.or_false, Bool.not_true, Bool.not_false]), E⟩

theorem c_stands (w : World) (s : Str) (n : Nat) (hn : n ≤ 100) (hs : s.length ≤ 140737488351232) : Calls Tryd.prog 34 [S s, .int .i64 (n : Int)].toArray w (Ret fun u w' => u = .bool (bytesB s n) ∧ Mod [] w w') := by
  refine enter Tryd.func34 rfl rfl rfl (l := [(0, _), (1, _)]) ⟨rfl, rfl, trivial⟩ ?_
  have E := Mod.refl [] w
  refine c_seq fun K1 hK1 => ?_
  refine c_region ?_
  refine sv (o_as rfl) rfl ?_
  refine l_nil ?_
  refine e_K (hK1 _ _ _ _ ?_)
  refine c_seq fun K2 hK2 => ?_
  refine c_seq fun K3 hK3 => ?_
  refine c_region ?_
  refine sv (o_mv rfl) rfl ?_
  refine sv (o_slen Tryd.underlying9 rfl) rfl ?_
  refine sv (o_gtr rfl rfl) rfl ?_
  refine l_nil ?_
  refine e_K (hK3 _ _ _ _ ?_)
  refine c_if rfl (fun h9 => ?_) (fun h9 => ?_)
  · skip
    refine c_seq fun K4 hK4 => ?_
    refine c_region ?_
    refine sv (o_as rfl) rfl ?_
    refine l_nil ?_
    refine e_K (hK4 _ _ _ _ ?_)
    refine c_ret ?_
    refine e_then (by simp) ?_
    exact ret1 rfl rfl ⟨by rw [bytesB, show decide (s.length * 6 / 8 = n) = false from decide_eq_false (by omega)]; simp, E⟩
  · skip
    refine c_skip ?_
    refine e_K (hK2 _ _ _ _ ?_)
    refine c_seq fun K5 hK5 => ?_
    refine c_region ?_
    refine sv (o_mv rfl) rfl ?_
    refine sc (o_call ent64 rfl) (c_decodeR _ (s) false hs) rfl fun v_ w1 h_ => ?_
    obtain ⟨⟨dv, bs, o, rfl, ho, hO, hbs, _⟩, E_⟩ := h_
    replace E := E.then E_
    obtain ⟨ad1, cp1, rfl, hcp1, hcp2⟩ := hO.form
    refine sv (o_mv rfl) rfl ?_
    refine sv (o_ext rfl rfl) rfl ?_
    refine sv (o_ext rfl rfl) rfl ?_
    refine sv (o_as rfl) rfl ?_
    refine sv (o_as rfl) rfl ?_
    refine l_nil ?_
    refine e_K (hK5 _ _ _ _ ?_)
    refine c_seq fun K6 hK6 => ?_
    by_cases hk0 : (o) = true
    · skip
      have en : decide (s.length * 6 / 8 = n) = decide ((bs.length : Int) = (n : Int)) := by
        rw [decide_eq_decide]
        rw [hk0] at ho
        rw [← ho, if_pos rfl] at hbs
        omega
      by_cases hk1 : (bs.length : Int) = (n : Int)
      · skip
        refine c_region ?_
        refine sv (o_mv rfl) rfl ?_
        refine sv (o_mv rfl) rfl ?_
        refine sg rfl (hk0) (o_mv rfl) rfl ?_
        refine sg rfl (hk0) (o_len Tryd.underlying45 rfl) rfl ?_
        refine sg rfl (hk0) (o_mv rfl) rfl ?_
        refine sg rfl (hk0) (o_eql rfl rfl) rfl ?_
        refine sv (o_pickT (hk0) rfl rfl) rfl ?_
        refine sv (o_as rfl) rfl ?_
        refine l_nil ?_
        refine e_K (hK6 _ _ _ _ ?_)
        refine c_ret ?_
        exact ret1 rfl rfl ⟨congrArg Value.bool (by rw [bytesB, ← ho, en]; simp only [hk0, decide_eq_true hk1, Bool.true_and, Bool.and_true, Bool.false_and, Bool.and_false, Bool.true_or, Bool.or_true, Bool.false_or, Bool.or_false, Bool.not_true, Bool.not_false]), E⟩
      · skip
        refine c_region ?_
        refine sv (o_mv rfl) rfl ?_
        refine sv (o_mv rfl) rfl ?_
        refine sg rfl (hk0) (o_mv rfl) rfl ?_
        refine sg rfl (hk0) (o_len Tryd.underlying45 rfl) rfl ?_
        refine sg rfl (hk0) (o_mv rfl) rfl ?_
        refine sg rfl (hk0) (o_eql rfl rfl) rfl ?_
        refine sv (o_pickT (hk0) rfl rfl) rfl ?_
        refine sv (o_as rfl) rfl ?_
        refine l_nil ?_
        refine e_K (hK6 _ _ _ _ ?_)
        refine c_ret ?_
        exact ret1 rfl rfl ⟨congrArg Value.bool (by rw [bytesB, ← ho, en]; simp only [hk0, decide_eq_false hk1, Bool.true_and, Bool.and_true, Bool.false_and, Bool.and_false, Bool.true_or, Bool.or_true, Bool.false_or, Bool.or_false, Bool.not_true, Bool.not_false]), E⟩
    · skip
      refine c_region ?_
      refine sv (o_mv rfl) rfl ?_
      refine sv (o_mv rfl) rfl ?_
      refine sn rfl (fun e_ => absurd ((Bool.eq_false_iff.2 hk0).symm.trans e_) (by decide)) rfl ?_
      refine sn rfl (fun e_ => absurd ((Bool.eq_false_iff.2 hk0).symm.trans e_) (by decide)) rfl ?_
      refine sn rfl (fun e_ => absurd ((Bool.eq_false_iff.2 hk0).symm.trans e_) (by decide)) rfl ?_
      refine sn rfl (fun e_ => absurd ((Bool.eq_false_iff.2 hk0).symm.trans e_) (by decide)) rfl ?_
      refine sv (o_pickF (Bool.eq_false_iff.2 hk0) rfl rfl) rfl ?_
      refine sv (o_as rfl) rfl ?_
      refine l_nil ?_
      refine e_K (hK6 _ _ _ _ ?_)
      refine c_ret ?_
      exact ret1 rfl rfl ⟨congrArg Value.bool (by rw [bytesB, ← ho]; simp only [Bool.eq_false_iff.2 hk0, Bool.true_and, Bool.and_true, Bool.false_and, Bool.and_false, Bool.true_or, Bool.or_true, Bool.false_or, Bool.or_false, Bool.not_true, Bool.not_false]), E⟩

theorem c_short11 (w : World) (s : Str) : Calls Tryd.prog 25 [S s].toArray w (Ret fun u w' => u = .bool (shortB s) ∧ Mod [] w w') := by
  refine enter Tryd.func25 rfl rfl rfl (l := [(0, _)]) ⟨rfl, trivial⟩ ?_
  have E := Mod.refl [] w
  refine c_seq fun K1 hK1 => ?_
  refine c_region ?_
  refine sv (o_as rfl) rfl ?_
  refine l_nil ?_
  refine e_K (hK1 _ _ _ _ ?_)
  refine c_seq fun K2 hK2 => ?_
  by_cases hk0 : (s.length : Int) ≤ 255
  · skip
    by_cases hk1 : (validR s) = true
    · skip
      refine c_region ?_
      refine sv (o_mv rfl) rfl ?_
      refine sv (o_slen Tryd.underlying9 rfl) rfl ?_
      refine sv (o_leq rfl rfl) rfl ?_
      refine sv (o_mv rfl) rfl ?_
      refine sg rfl (decide_eq_true hk0) (o_mv rfl) rfl ?_
      refine sgc rfl (decide_eq_true hk0) (o_call ent61 rfl) (c_qvalid _ s) rfl fun v_ w1 h_ => ?_
      obtain ⟨rfl, E_⟩ := h_
      replace E := E.then E_
      refine sv (o_pickT (decide_eq_true hk0) rfl rfl) rfl ?_
      refine sv (o_as rfl) rfl ?_
      refine l_nil ?_
      refine e_K (hK2 _ _ _ _ ?_)
      refine c_ret ?_
      exact ret1 rfl rfl ⟨congrArg Value.bool (by rw [shortB]; simp only [decide_eq_true hk0, hk1, Bool.true_and, Bool.and_true, Bool.false_and, Bool.and_false, Bool.true_or, Bool.or_true, Bool.false_or, Bool.or_false, Bool.not_true, Bool.not_false]), E⟩
    · skip
      refine c_region ?_
      refine sv (o_mv rfl) rfl ?_
      refine sv (o_slen Tryd.underlying9 rfl) rfl ?_
      refine sv (o_leq rfl rfl) rfl ?_
      refine sv (o_mv rfl) rfl ?_
      refine sg rfl (decide_eq_true hk0) (o_mv rfl) rfl ?_
      refine sgc rfl (decide_eq_true hk0) (o_call ent61 rfl) (c_qvalid _ s) rfl fun v_ w2 h_ => ?_
      obtain ⟨rfl, E_⟩ := h_
      replace E := E.then E_
      refine sv (o_pickT (decide_eq_true hk0) rfl rfl) rfl ?_
      refine sv (o_as rfl) rfl ?_
      refine l_nil ?_
      refine e_K (hK2 _ _ _ _ ?_)
      refine c_ret ?_
      exact ret1 rfl rfl ⟨congrArg Value.bool (by rw [shortB]; simp only [decide_eq_true hk0, Bool.eq_false_iff.2 hk1, Bool.true_and, Bool.and_true, Bool.false_and, Bool.and_false, Bool.true_or, Bool.or_true, Bool.false_or, Bool.or_false, Bool.not_true, Bool.not_false]), E⟩
  · skip
    refine c_region ?_
    refine sv (o_mv rfl) rfl ?_
    refine sv (o_slen Tryd.underlying9 rfl) rfl ?_
    refine sv (o_leq rfl rfl) rfl ?_
    refine sv (o_mv rfl) rfl ?_
    refine sn rfl (fun e_ => absurd ((decide_eq_false hk0).symm.trans e_) (by decide)) rfl ?_
    refine sn rfl (fun e_ => absurd ((decide_eq_false hk0).symm.trans e_) (by decide)) rfl ?_
    refine sv (o_pickF (decide_eq_false hk0) rfl rfl) rfl ?_
    refine sv (o_as rfl) rfl ?_
    refine l_nil ?_
    refine e_K (hK2 _ _ _ _ ?_)
    refine c_ret ?_
    exact ret1 rfl rfl ⟨congrArg Value.bool (by rw [shortB]; simp only [decide_eq_false hk0, Bool.true_and, Bool.and_true, Bool.false_and, Bool.and_false, Bool.true_or, Bool.or_true, Bool.false_or, Bool.or_false, Bool.not_true, Bool.not_false]), E⟩

theorem c_few (w : World) (s : Str) : Calls Tryd.prog 37 [S s].toArray w (Ret fun u w' => u = .bool (shortB s) ∧ Mod [] w w') := by
  refine enter Tryd.func37 rfl rfl rfl (l := [(0, _)]) ⟨rfl, trivial⟩ ?_
  have E := Mod.refl [] w
  refine c_seq fun K1 hK1 => ?_
  refine c_region ?_
  refine sv (o_as rfl) rfl ?_
  refine l_nil ?_
  refine e_K (hK1 _ _ _ _ ?_)
  refine c_seq fun K2 hK2 => ?_
  by_cases hk0 : (s.length : Int) ≤ 255
  · skip
    by_cases hk1 : (validR s) = true
    · skip
      refine c_region ?_
      refine sv (o_mv rfl) rfl ?_
      refine sv (o_slen Tryd.underlying9 rfl) rfl ?_
      refine sv (o_leq rfl rfl) rfl ?_
      refine sv (o_mv rfl) rfl ?_
      refine sg rfl (decide_eq_true hk0) (o_mv rfl) rfl ?_
      refine sgc rfl (decide_eq_true hk0) (o_call ent68 rfl) (c_valid8 _ _) rfl fun v_ w1 h_ => ?_
      obtain ⟨rfl, E_⟩ := h_
      replace E := E.then E_
      refine sv (o_pickT (decide_eq_true hk0) rfl rfl) rfl ?_
      refine sv (o_as rfl) rfl ?_
      refine l_nil ?_
      refine e_K (hK2 _ _ _ _ ?_)
      refine c_ret ?_
      exact ret1 rfl rfl ⟨congrArg Value.bool (by rw [shortB]; simp only [decide_eq_true hk0, hk1, Bool.true_and, Bool.and_true, Bool.false_and, Bool.and_false, Bool.true_or, Bool.or_true, Bool.false_or, Bool.or_false, Bool.not_true, Bool.not_false]), E⟩
    · skip
      refine c_region ?_
      refine sv (o_mv rfl) rfl ?_
      refine sv (o_slen Tryd.underlying9 rfl) rfl ?_
      refine sv (o_leq rfl rfl) rfl ?_
      refine sv (o_mv rfl) rfl ?_
      refine sg rfl (decide_eq_true hk0) (o_mv rfl) rfl ?_
      refine sgc rfl (decide_eq_true hk0) (o_call ent68 rfl) (c_valid8 _ _) rfl fun v_ w2 h_ => ?_
      obtain ⟨rfl, E_⟩ := h_
      replace E := E.then E_
      refine sv (o_pickT (decide_eq_true hk0) rfl rfl) rfl ?_
      refine sv (o_as rfl) rfl ?_
      refine l_nil ?_
      refine e_K (hK2 _ _ _ _ ?_)
      refine c_ret ?_
      exact ret1 rfl rfl ⟨congrArg Value.bool (by rw [shortB]; simp only [decide_eq_true hk0, Bool.eq_false_iff.2 hk1, Bool.true_and, Bool.and_true, Bool.false_and, Bool.and_false, Bool.true_or, Bool.or_true, Bool.false_or, Bool.or_false, Bool.not_true, Bool.not_false]), E⟩
  · skip
    refine c_region ?_
    refine sv (o_mv rfl) rfl ?_
    refine sv (o_slen Tryd.underlying9 rfl) rfl ?_
    refine sv (o_leq rfl rfl) rfl ?_
    refine sv (o_mv rfl) rfl ?_
    refine sn rfl (fun e_ => absurd ((decide_eq_false hk0).symm.trans e_) (by decide)) rfl ?_
    refine sn rfl (fun e_ => absurd ((decide_eq_false hk0).symm.trans e_) (by decide)) rfl ?_
    refine sv (o_pickF (decide_eq_false hk0) rfl rfl) rfl ?_
    refine sv (o_as rfl) rfl ?_
    refine l_nil ?_
    refine e_K (hK2 _ _ _ _ ?_)
    refine c_ret ?_
    exact ret1 rfl rfl ⟨congrArg Value.bool (by rw [shortB]; simp only [decide_eq_false hk0, Bool.true_and, Bool.and_true, Bool.false_and, Bool.and_false, Bool.true_or, Bool.or_true, Bool.false_or, Bool.or_false, Bool.not_true, Bool.not_false]), E⟩

theorem c_number (w : World) (n : Int) : Calls Tryd.prog 26 [.int .i64 n].toArray w (Ret fun u w' => u = .bool (numB n) ∧ Mod [] w w') := by
  refine enter Tryd.func26 rfl rfl rfl (l := [(0, _)]) ⟨rfl, trivial⟩ ?_
  have E := Mod.refl [] w
  refine c_seq fun K1 hK1 => ?_
  refine c_region ?_
  refine sv (o_as rfl) rfl ?_
  refine l_nil ?_
  refine e_K (hK1 _ _ _ _ ?_)
  refine c_seq fun K2 hK2 => ?_
  by_cases hk0 : 0 ≤ n
  · skip
    by_cases hk1 : n ≤ 9007199254740991
    · skip
      refine c_region ?_
      refine sv (o_mv rfl) rfl ?_
      refine sv (o_geq rfl rfl) rfl ?_
      refine sv (o_mv rfl) rfl ?_
      refine sg rfl (decide_eq_true hk0) (o_mv rfl) rfl ?_
      refine sg rfl (decide_eq_true hk0) (o_leq rfl rfl) rfl ?_
      refine sv (o_pickT (decide_eq_true hk0) rfl rfl) rfl ?_
      refine sv (o_as rfl) rfl ?_
      refine l_nil ?_
      refine e_K (hK2 _ _ _ _ ?_)
      refine c_ret ?_
      exact ret1 rfl rfl ⟨congrArg Value.bool (by rw [numB]; simp only [decide_eq_true hk0, decide_eq_true hk1, Bool.true_and, Bool.and_true, Bool.false_and, Bool.and_false, Bool.true_or, Bool.or_true, Bool.false_or, Bool.or_false, Bool.not_true, Bool.not_false]), E⟩
    · skip
      refine c_region ?_
      refine sv (o_mv rfl) rfl ?_
      refine sv (o_geq rfl rfl) rfl ?_
      refine sv (o_mv rfl) rfl ?_
      refine sg rfl (decide_eq_true hk0) (o_mv rfl) rfl ?_
      refine sg rfl (decide_eq_true hk0) (o_leq rfl rfl) rfl ?_
      refine sv (o_pickT (decide_eq_true hk0) rfl rfl) rfl ?_
      refine sv (o_as rfl) rfl ?_
      refine l_nil ?_
      refine e_K (hK2 _ _ _ _ ?_)
      refine c_ret ?_
      exact ret1 rfl rfl ⟨congrArg Value.bool (by rw [numB]; simp only [decide_eq_true hk0, decide_eq_false hk1, Bool.true_and, Bool.and_true, Bool.false_and, Bool.and_false, Bool.true_or, Bool.or_true, Bool.false_or, Bool.or_false, Bool.not_true, Bool.not_false]), E⟩
  · skip
    refine c_region ?_
    refine sv (o_mv rfl) rfl ?_
    refine sv (o_geq rfl rfl) rfl ?_
    refine sv (o_mv rfl) rfl ?_
    refine sn rfl (fun e_ => absurd ((decide_eq_false hk0).symm.trans e_) (by decide)) rfl ?_
    refine sn rfl (fun e_ => absurd ((decide_eq_false hk0).symm.trans e_) (by decide)) rfl ?_
    refine sv (o_pickF (decide_eq_false hk0) rfl rfl) rfl ?_
    refine sv (o_as rfl) rfl ?_
    refine l_nil ?_
    refine e_K (hK2 _ _ _ _ ?_)
    refine c_ret ?_
    exact ret1 rfl rfl ⟨congrArg Value.bool (by rw [numB]; simp only [decide_eq_false hk0, Bool.true_and, Bool.and_true, Bool.false_and, Bool.and_false, Bool.true_or, Bool.or_true, Bool.false_or, Bool.or_false, Bool.not_true, Bool.not_false]), E⟩

theorem c_sigs (w : World) (l : List Sig3) (ad : Option Addr) (c : Nat) (R : Rep [] w (flat 3 Sig3.cells l) (.slice ad l.length c)) (hlen : ∀ s ∈ l, s.srv.length < 4294967281 ∧ s.key.length ≤ 140737488351232 ∧ s.sig.length ≤ 140737488351232) (hll : l.length ≤ 140737488351232) (hM : MaxL w) : Calls Tryd.prog 28 [.slice ad l.length c].toArray w (Ret fun u w' => u = .bool (sigsL none l) ∧ Mod [] w w') := by
  refine enter Tryd.func28 rfl rfl rfl (l := [(0, _)]) ⟨rfl, trivial⟩ ?_
  have E := Mod.refl [] w
  obtain ⟨_, c9, hfl, hcc1, hcc2⟩ := flat_len R
  injection hfl with _ _ hfc
  subst hfc
  refine c_seq fun K1 hK1 => ?_
  refine c_region ?_
  refine sv (o_as rfl) rfl ?_
  refine l_nil ?_
  refine e_K (hK1 _ _ _ _ ?_)
  refine c_seq fun K2 hK2 => ?_
  refine c_seq fun K3 hK3 => ?_
  refine c_region ?_
  refine sv (o_mv rfl) rfl ?_
  refine sv (o_len Tryd.underlying31 rfl) rfl ?_
  refine sv (o_mv rfl) rfl ?_
  refine l_nil ?_
  refine e_K (hK3 _ _ _ _ ?_)
  refine c_block ?_
  refine c_loop (σ := Nat) (fun k => [(0, .slice ad l.length c), (5, .slice ad l.length c), (6, .int .i64 (l.length : Int)), (7, .int .i64 (k : Int))]) (fun k w1 => k ≤ l.length ∧ sigsL none l = sigsL (prevS l k) (l.drop k) ∧ Mod [] w w1) (fun k => l.length - k) (0) ⟨rfl, rfl, rfl, rfl, trivial⟩ (⟨by omega, rfl, E⟩) ?_
  rintro k w1 ⟨hk, hinv, E⟩
  refine c_seq fun K4 hK4 => ?_
  refine c_region ?_
  refine sv (o_lss rfl rfl) rfl ?_
  refine l_nil ?_
  refine e_K (hK4 _ _ _ _ ?_)
  refine c_seq fun K5 hK5 => ?_
  refine c_if rfl (fun h8 => ?_) (fun h8 => ?_)
  · skip
    refine c_skip ?_
    refine e_K (hK5 _ _ _ _ ?_)
    refine c_seq fun K6 hK6 => ?_
    refine c_block ?_
    refine c_seq fun K7 hK7 => ?_
    refine c_region ?_
    refine sv (o_mv rfl) rfl ?_
    obtain ⟨x, hx_x⟩ : ∃ x, l[k]? = some x := ⟨_, List.getElem?_eq_getElem (by omega)⟩
    obtain ⟨a_x, ha_x, hcs_x, _⟩ := flat_at (R.to0 E) hx_x
    cases ha_x
    obtain ⟨hl1_x, hl2_x, hl3_x⟩ := hlen x (List.mem_of_getElem? hx_x)
    refine sv (o_ix sl31 rfl rfl (by omega)) rfl ?_
    refine sv (o_lda ag58 rfl rfl hcs_x) rfl ?_
    refine s_alloc zv58 rfl fun g1 w2 N1 => ?_
    have Lg1_E := N1.le E
    replace E := E.then N1.mod
    have Bg1 := N1.blk
    refine sv (o_as rfl) rfl ?_
    refine s_sta (vs := [_, _, _]) ag58 Bg1 rfl rfl rfl (by simp [Value.oneCell']) (by simp) fun w3 P3 => ?_
    replace E := E.own P3.mod Lg1_E
    replace Bg1 : Blk w3 g1 _ [_, _, _] := P3.blk
    refine l_nil ?_
    refine e_K (hK7 _ _ _ _ ?_)
    refine c_seq fun K8 hK8 => ?_
    refine c_seq fun K9 hK9 => ?_
    by_cases hk0 : (!serverB x.srv) = true
    · skip
      refine c_region ?_
      refine sv (o_fa0 fd58_0 rfl) rfl ?_
      refine sv (o_ld sc9 rfl (Bg1.cell rfl)) rfl ?_
      refine sc (o_call ent53 rfl) (c_server _ x.srv hl1_x (hM.mod0 E)) rfl fun v_ w4 h_ => ?_
      obtain ⟨rfl, E_⟩ := h_
      replace Bg1 := Bg1.mod0 E_
      replace E := E.then E_
      refine sv (o_not rfl) rfl ?_
      refine sv (o_mv rfl) rfl ?_
      refine sn rfl (fun e_ => absurd ((hk0).symm.trans e_) (by decide)) rfl ?_
      refine sn rfl (fun e_ => absurd ((hk0).symm.trans e_) (by decide)) rfl ?_
      refine sn rfl (fun e_ => absurd ((hk0).symm.trans e_) (by decide)) rfl ?_
      refine sn rfl (fun e_ => absurd ((hk0).symm.trans e_) (by decide)) rfl ?_
      refine sv (o_pickT (hk0) rfl rfl) rfl ?_
      refine sv (o_mv rfl) rfl ?_
      refine sn rfl (fun e_ => absurd ((rfl).symm.trans e_) (by decide)) rfl ?_
      refine sn rfl (fun e_ => absurd ((rfl).symm.trans e_) (by decide)) rfl ?_
      refine sn rfl (fun e_ => absurd ((rfl).symm.trans e_) (by decide)) rfl ?_
      refine sn rfl (fun e_ => absurd ((rfl).symm.trans e_) (by decide)) rfl ?_
      refine sv (o_pickT (rfl) rfl rfl) rfl ?_
      refine l_nil ?_
      refine e_K (hK9 _ _ _ _ ?_)
      refine c_true rfl ?_
      have h_ : serverB x.srv = false := by simpa using hk0
      have hF : sigsL none l = false := by rw [hinv, sigsL_at hx_x, show sigB x = false by simp [sigB, h_]]; rfl
      refine c_seq fun K10 hK10 => ?_
      refine c_region ?_
      refine sv (o_as rfl) rfl ?_
      refine l_nil ?_
      refine e_K (hK10 _ _ _ _ ?_)
      refine c_ret ?_
      refine e_then (by simp) ?_
      refine e_in (by simp) ?_
      refine e_then (by simp) ?_
      refine e_then (by simp) ?_
      refine e_in (by simp) ?_
      refine e_then (by simp) ?_
      exact ret1 rfl rfl ⟨by rw [hF], E⟩
    · skip
      by_cases hk1 : (!keyB x.key) = true
      · skip
        refine c_region ?_
        refine sv (o_fa0 fd58_0 rfl) rfl ?_
        refine sv (o_ld sc9 rfl (Bg1.cell rfl)) rfl ?_
        refine sc (o_call ent53 rfl) (c_server _ x.srv hl1_x (hM.mod0 E)) rfl fun v_ w5 h_ => ?_
        obtain ⟨rfl, E_⟩ := h_
        replace Bg1 := Bg1.mod0 E_
        replace E := E.then E_
        refine sv (o_not rfl) rfl ?_
        refine sv (o_mv rfl) rfl ?_
        refine sg rfl (Bool.eq_false_iff.2 hk0) (o_fa0 fd58_1 rfl) rfl ?_
        refine sg rfl (Bool.eq_false_iff.2 hk0) (o_ld sc9 rfl (Bg1.cell rfl)) rfl ?_
        refine sgc rfl (Bool.eq_false_iff.2 hk0) (o_call ent63 rfl) (c_key _ x.key) rfl fun v_ w6 h_ => ?_
        obtain ⟨rfl, E_⟩ := h_
        replace Bg1 := Bg1.mod0 E_
        replace E := E.then E_
        refine sg rfl (Bool.eq_false_iff.2 hk0) (o_not rfl) rfl ?_
        refine sv (o_pickF (Bool.eq_false_iff.2 hk0) rfl rfl) rfl ?_
        refine sv (o_mv rfl) rfl ?_
        refine sn rfl (fun e_ => absurd ((hk1).symm.trans e_) (by decide)) rfl ?_
        refine sn rfl (fun e_ => absurd ((hk1).symm.trans e_) (by decide)) rfl ?_
        refine sn rfl (fun e_ => absurd ((hk1).symm.trans e_) (by decide)) rfl ?_
        refine sn rfl (fun e_ => absurd ((hk1).symm.trans e_) (by decide)) rfl ?_
        refine sv (o_pickT (hk1) rfl rfl) rfl ?_
        refine l_nil ?_
        refine e_K (hK9 _ _ _ _ ?_)
        refine c_true rfl ?_
        have h_ : keyB x.key = false := by simpa using hk1
        have hF : sigsL none l = false := by rw [hinv, sigsL_at hx_x, show sigB x = false by simp [sigB, h_]]; rfl
        refine c_seq fun K11 hK11 => ?_
        refine c_region ?_
        refine sv (o_as rfl) rfl ?_
        refine l_nil ?_
        refine e_K (hK11 _ _ _ _ ?_)
        refine c_ret ?_
        refine e_then (by simp) ?_
        refine e_in (by simp) ?_
        refine e_then (by simp) ?_
        refine e_then (by simp) ?_
        refine e_in (by simp) ?_
        refine e_then (by simp) ?_
        exact ret1 rfl rfl ⟨by rw [hF], E⟩
      · skip
        by_cases hk2 : (!bytesB x.sig 64) = true
        · skip
          refine c_region ?_
          refine sv (o_fa0 fd58_0 rfl) rfl ?_
          refine sv (o_ld sc9 rfl (Bg1.cell rfl)) rfl ?_
          refine sc (o_call ent53 rfl) (c_server _ x.srv hl1_x (hM.mod0 E)) rfl fun v_ w7 h_ => ?_
          obtain ⟨rfl, E_⟩ := h_
          replace Bg1 := Bg1.mod0 E_
          replace E := E.then E_
          refine sv (o_not rfl) rfl ?_
          refine sv (o_mv rfl) rfl ?_
          refine sg rfl (Bool.eq_false_iff.2 hk0) (o_fa0 fd58_1 rfl) rfl ?_
          refine sg rfl (Bool.eq_false_iff.2 hk0) (o_ld sc9 rfl (Bg1.cell rfl)) rfl ?_
          refine sgc rfl (Bool.eq_false_iff.2 hk0) (o_call ent63 rfl) (c_key _ x.key) rfl fun v_ w8 h_ => ?_
          obtain ⟨rfl, E_⟩ := h_
          replace Bg1 := Bg1.mod0 E_
          replace E := E.then E_
          refine sg rfl (Bool.eq_false_iff.2 hk0) (o_not rfl) rfl ?_
          refine sv (o_pickF (Bool.eq_false_iff.2 hk0) rfl rfl) rfl ?_
          refine sv (o_mv rfl) rfl ?_
          refine sg rfl (Bool.eq_false_iff.2 hk1) (o_fa0 fd58_2 rfl) rfl ?_
          refine sg rfl (Bool.eq_false_iff.2 hk1) (o_ld sc9 rfl (Bg1.cell rfl)) rfl ?_
          refine sgc rfl (Bool.eq_false_iff.2 hk1) (o_call ent27 rfl) (c_bytes _ x.sig 64 hl3_x) rfl fun v_ w9 h_ => ?_
          obtain ⟨rfl, E_⟩ := h_
          replace Bg1 := Bg1.mod0 E_
          replace E := E.then E_
          refine sg rfl (Bool.eq_false_iff.2 hk1) (o_not rfl) rfl ?_
          refine sv (o_pickF (Bool.eq_false_iff.2 hk1) rfl rfl) rfl ?_
          refine l_nil ?_
          refine e_K (hK9 _ _ _ _ ?_)
          refine c_cond rfl (fun h27 => ?_) (fun h27 => absurd ((hk2).symm.trans h27) (by decide))
          have h_ : bytesB x.sig 64 = false := by simpa using hk2
          have hF : sigsL none l = false := by rw [hinv, sigsL_at hx_x, show sigB x = false by simp [sigB, h_]]; rfl
          refine c_seq fun K12 hK12 => ?_
          refine c_region ?_
          refine sv (o_as rfl) rfl ?_
          refine l_nil ?_
          refine e_K (hK12 _ _ _ _ ?_)
          refine c_ret ?_
          refine e_then (by simp) ?_
          refine e_in (by simp) ?_
          refine e_then (by simp) ?_
          refine e_then (by simp) ?_
          refine e_in (by simp) ?_
          refine e_then (by simp) ?_
          exact ret1 rfl rfl ⟨by rw [hF], E⟩
        · skip
          refine c_region ?_
          refine sv (o_fa0 fd58_0 rfl) rfl ?_
          refine sv (o_ld sc9 rfl (Bg1.cell rfl)) rfl ?_
          refine sc (o_call ent53 rfl) (c_server _ x.srv hl1_x (hM.mod0 E)) rfl fun v_ w10 h_ => ?_
          obtain ⟨rfl, E_⟩ := h_
          replace Bg1 := Bg1.mod0 E_
          replace E := E.then E_
          refine sv (o_not rfl) rfl ?_
          refine sv (o_mv rfl) rfl ?_
          refine sg rfl (Bool.eq_false_iff.2 hk0) (o_fa0 fd58_1 rfl) rfl ?_
          refine sg rfl (Bool.eq_false_iff.2 hk0) (o_ld sc9 rfl (Bg1.cell rfl)) rfl ?_
          refine sgc rfl (Bool.eq_false_iff.2 hk0) (o_call ent63 rfl) (c_key _ x.key) rfl fun v_ w11 h_ => ?_
          obtain ⟨rfl, E_⟩ := h_
          replace Bg1 := Bg1.mod0 E_
          replace E := E.then E_
          refine sg rfl (Bool.eq_false_iff.2 hk0) (o_not rfl) rfl ?_
          refine sv (o_pickF (Bool.eq_false_iff.2 hk0) rfl rfl) rfl ?_
          refine sv (o_mv rfl) rfl ?_
          refine sg rfl (Bool.eq_false_iff.2 hk1) (o_fa0 fd58_2 rfl) rfl ?_
          refine sg rfl (Bool.eq_false_iff.2 hk1) (o_ld sc9 rfl (Bg1.cell rfl)) rfl ?_
          refine sgc rfl (Bool.eq_false_iff.2 hk1) (o_call ent27 rfl) (c_bytes _ x.sig 64 hl3_x) rfl fun v_ w12 h_ => ?_
          obtain ⟨rfl, E_⟩ := h_
          replace Bg1 := Bg1.mod0 E_
          replace E := E.then E_
          refine sg rfl (Bool.eq_false_iff.2 hk1) (o_not rfl) rfl ?_
          refine sv (o_pickF (Bool.eq_false_iff.2 hk1) rfl rfl) rfl ?_
          refine l_nil ?_
          refine e_K (hK9 _ _ _ _ ?_)
          refine c_cond rfl (fun h27 => absurd ((Bool.eq_false_iff.2 hk2).symm.trans h27) (by decide)) (fun h27 => ?_)
          have g0 : serverB x.srv = true := by simpa using hk0
          have g1_ : keyB x.key = true := by simpa using hk1
          have g2_ : bytesB x.sig 64 = true := by simpa using hk2
          have hsg : sigB x = true := by rw [sigB, g0, g1_, g2_]; rfl
          refine c_skip ?_
          refine e_K (hK8 _ _ _ _ ?_)
          refine c_seq fun K13 hK13 => ?_
          by_cases hk3 : (k : Int) > 0
          · skip
            obtain ⟨q, hx_q⟩ : ∃ x, l[k - 1]? = some x := ⟨_, List.getElem?_eq_getElem (by omega)⟩
            obtain ⟨a_q, ha_q, hcs_q, _⟩ := flat_at (R.to0 E) hx_q
            cases ha_q
            obtain ⟨hl1_q, hl2_q, hl3_q⟩ := hlen q (List.mem_of_getElem? hx_q)
            by_cases hk4 : (!(bl q.srv x.srv || q.srv == x.srv)) = true
            · skip
              refine c_draw wide (by kernel_rfl) ?_
              refine tv (fun w_ E_ => (o_mv rfl)) rfl rfl ?_
              refine tv (fun w_ E_ => (o_gtr rfl rfl)) rfl rfl ?_
              refine tv (fun w_ E_ => (o_mv rfl)) rfl rfl ?_
              refine tvg rfl (decide_eq_true hk3) (fun w_ E_ => (o_mv rfl)) rfl rfl ?_
              refine tvg rfl (decide_eq_true hk3) (fun w_ E_ => (o_mv rfl)) rfl rfl ?_
              refine tvg rfl (decide_eq_true hk3) (fun w_ E_ => (o_subE (r := ((k - 1 : Nat) : Int)) rfl rfl (by rw [wrap64_in _ (by omega)]; omega))) rfl rfl ?_
              refine tvg rfl (decide_eq_true hk3) (fun w_ E_ => (o_ix sl31 rfl rfl (by omega))) rfl rfl ?_
              refine tvg rfl (decide_eq_true hk3) (fun w_ E_ => (o_fad fd58_0 rfl)) rfl rfl ?_
              refine tvg rfl (decide_eq_true hk3) (fun w_ E_ => (o_ld sc9 rfl ((hcs_q.mod0 E_) 0 _ rfl))) rfl rfl ?_
              refine tvg rfl (decide_eq_true hk3) (fun w_ E_ => (o_fa0 fd58_0 rfl)) rfl rfl ?_
              refine tvg rfl (decide_eq_true hk3) (fun w_ E_ => (o_ld sc9 rfl ((Bg1.mod0 E_).cell rfl))) rfl rfl ?_
              refine tvg rfl (decide_eq_true hk3) (fun w_ E_ => (o_sgt rfl rfl)) rfl rfl ?_
              refine tvg rfl (decide_eq_true hk3) (fun w_ E_ => (o_mv rfl)) rfl rfl ?_
              refine tn rfl (fun e_ => absurd ((hk4).symm.trans e_) (by decide)) rfl ?_
              refine tn rfl (fun e_ => absurd ((hk4).symm.trans e_) (by decide)) rfl ?_
              refine tn rfl (fun e_ => absurd ((hk4).symm.trans e_) (by decide)) rfl ?_
              refine tn rfl (fun e_ => absurd ((hk4).symm.trans e_) (by decide)) rfl ?_
              refine tn rfl (fun e_ => absurd ((hk4).symm.trans e_) (by decide)) rfl ?_
              refine tn rfl (fun e_ => absurd ((hk4).symm.trans e_) (by decide)) rfl ?_
              refine tn rfl (fun e_ => absurd ((hk4).symm.trans e_) (by decide)) rfl ?_
              refine tn rfl (fun e_ => absurd ((hk4).symm.trans e_) (by decide)) rfl ?_
              refine tn rfl (fun e_ => absurd ((hk4).symm.trans e_) (by decide)) rfl ?_
              refine tn rfl (fun e_ => absurd ((hk4).symm.trans e_) (by decide)) rfl ?_
              refine tnu rfl rfl rfl ?_
              refine tnu rfl rfl rfl ?_
              refine tnu rfl rfl rfl ?_
              refine tnu rfl rfl rfl ?_
              refine tnu rfl rfl rfl ?_
              refine tnu rfl rfl rfl ?_
              refine tnu rfl rfl rfl ?_
              refine tnu rfl rfl rfl ?_
              refine tnu rfl rfl rfl ?_
              refine tn rfl (fun e_ => absurd ((hk4).symm.trans e_) (by decide)) rfl ?_
              refine tvg rfl (decide_eq_true hk3) (fun w_ E_ => (o_pickT (hk4) rfl rfl)) rfl rfl ?_
              refine tv (fun w_ E_ => (o_pickT (decide_eq_true hk3) rfl rfl)) rfl rfl ?_
              refine tw_nil rfl fun w13 E_ => ?_
              replace Bg1 := Bg1.mod0 E_
              replace E := E.then E_
              refine e_K (hK13 _ _ _ _ ?_)
              refine c_true rfl ?_
              have hb_ : sigBad q x = true := by rw [sigBad]; simp only [hk4, Bool.true_and, Bool.and_true, Bool.false_and, Bool.and_false, Bool.true_or, Bool.or_true, Bool.false_or, Bool.or_false, Bool.not_true, Bool.not_false]
              have hF : sigsL none l = false := by rw [hinv, sigsL_at hx_x, okP_at hx_q (by omega), hb_]; simp
              refine c_seq fun K14 hK14 => ?_
              refine c_region ?_
              refine sv (o_as rfl) rfl ?_
              refine l_nil ?_
              refine e_K (hK14 _ _ _ _ ?_)
              refine c_ret ?_
              refine e_in (by simp) ?_
              refine e_then (by simp) ?_
              refine e_then (by simp) ?_
              refine e_in (by simp) ?_
              refine e_then (by simp) ?_
              exact ret1 rfl rfl ⟨by rw [hF], E⟩
            · skip
              by_cases hk5 : q.srv = x.srv
              · skip
                by_cases hk6 : (!bl q.key x.key) = true
                · skip
                  refine c_draw wide (by kernel_rfl) ?_
                  refine tv (fun w_ E_ => (o_mv rfl)) rfl rfl ?_
                  refine tv (fun w_ E_ => (o_gtr rfl rfl)) rfl rfl ?_
                  refine tv (fun w_ E_ => (o_mv rfl)) rfl rfl ?_
                  refine tvg rfl (decide_eq_true hk3) (fun w_ E_ => (o_mv rfl)) rfl rfl ?_
                  refine tvg rfl (decide_eq_true hk3) (fun w_ E_ => (o_mv rfl)) rfl rfl ?_
                  refine tvg rfl (decide_eq_true hk3) (fun w_ E_ => (o_subE (r := ((k - 1 : Nat) : Int)) rfl rfl (by rw [wrap64_in _ (by omega)]; omega))) rfl rfl ?_
                  refine tvg rfl (decide_eq_true hk3) (fun w_ E_ => (o_ix sl31 rfl rfl (by omega))) rfl rfl ?_
                  refine tvg rfl (decide_eq_true hk3) (fun w_ E_ => (o_fad fd58_0 rfl)) rfl rfl ?_
                  refine tvg rfl (decide_eq_true hk3) (fun w_ E_ => (o_ld sc9 rfl ((hcs_q.mod0 E_) 0 _ rfl))) rfl rfl ?_
                  refine tvg rfl (decide_eq_true hk3) (fun w_ E_ => (o_fa0 fd58_0 rfl)) rfl rfl ?_
                  refine tvg rfl (decide_eq_true hk3) (fun w_ E_ => (o_ld sc9 rfl ((Bg1.mod0 E_).cell rfl))) rfl rfl ?_
                  refine tvg rfl (decide_eq_true hk3) (fun w_ E_ => (o_sgt rfl rfl)) rfl rfl ?_
                  refine tvg rfl (decide_eq_true hk3) (fun w_ E_ => (o_mv rfl)) rfl rfl ?_
                  refine tvg rfl (Bool.eq_false_iff.2 hk4) (fun w_ E_ => (o_mv rfl)) rfl rfl ?_
                  refine tvg rfl (Bool.eq_false_iff.2 hk4) (fun w_ E_ => (o_mv rfl)) rfl rfl ?_
                  refine tvg rfl (Bool.eq_false_iff.2 hk4) (fun w_ E_ => (o_subE (r := ((k - 1 : Nat) : Int)) rfl rfl (by rw [wrap64_in _ (by omega)]; omega))) rfl rfl ?_
                  refine tvg rfl (Bool.eq_false_iff.2 hk4) (fun w_ E_ => (o_ix sl31 rfl rfl (by omega))) rfl rfl ?_
                  refine tvg rfl (Bool.eq_false_iff.2 hk4) (fun w_ E_ => (o_fad fd58_0 rfl)) rfl rfl ?_
                  refine tvg rfl (Bool.eq_false_iff.2 hk4) (fun w_ E_ => (o_ld sc9 rfl ((hcs_q.mod0 E_) 0 _ rfl))) rfl rfl ?_
                  refine tvg rfl (Bool.eq_false_iff.2 hk4) (fun w_ E_ => (o_fa0 fd58_0 rfl)) rfl rfl ?_
                  refine tvg rfl (Bool.eq_false_iff.2 hk4) (fun w_ E_ => (o_ld sc9 rfl ((Bg1.mod0 E_).cell rfl))) rfl rfl ?_
                  refine tvg rfl (Bool.eq_false_iff.2 hk4) (fun w_ E_ => (o_seq rfl rfl)) rfl rfl ?_
                  refine tvg rfl (Bool.eq_false_iff.2 hk4) (fun w_ E_ => (o_mv rfl)) rfl rfl ?_
                  refine tvg rfl (decide_eq_true hk5) (fun w_ E_ => (o_mv rfl)) rfl rfl ?_
                  refine tvg rfl (decide_eq_true hk5) (fun w_ E_ => (o_mv rfl)) rfl rfl ?_
                  refine tvg rfl (decide_eq_true hk5) (fun w_ E_ => (o_subE (r := ((k - 1 : Nat) : Int)) rfl rfl (by rw [wrap64_in _ (by omega)]; omega))) rfl rfl ?_
                  refine tvg rfl (decide_eq_true hk5) (fun w_ E_ => (o_ix sl31 rfl rfl (by omega))) rfl rfl ?_
                  refine tvg rfl (decide_eq_true hk5) (fun w_ E_ => (o_fad fd58_1 rfl)) rfl rfl ?_
                  refine tvg rfl (decide_eq_true hk5) (fun w_ E_ => (o_ld sc9 rfl ((hcs_q.mod0 E_) 1 _ rfl))) rfl rfl ?_
                  refine tvg rfl (decide_eq_true hk5) (fun w_ E_ => (o_fa0 fd58_1 rfl)) rfl rfl ?_
                  refine tvg rfl (decide_eq_true hk5) (fun w_ E_ => (o_ld sc9 rfl ((Bg1.mod0 E_).cell rfl))) rfl rfl ?_
                  refine tvg rfl (decide_eq_true hk5) (fun w_ E_ => (o_sge rfl rfl)) rfl rfl ?_
                  refine tvg rfl (Bool.eq_false_iff.2 hk4) (fun w_ E_ => (o_pickT (decide_eq_true hk5) rfl rfl)) rfl rfl ?_
                  refine tvg rfl (decide_eq_true hk3) (fun w_ E_ => (o_pickF (Bool.eq_false_iff.2 hk4) rfl rfl)) rfl rfl ?_
                  refine tv (fun w_ E_ => (o_pickT (decide_eq_true hk3) rfl rfl)) rfl rfl ?_
                  refine tw_nil rfl fun w14 E_ => ?_
                  replace Bg1 := Bg1.mod0 E_
                  replace E := E.then E_
                  refine e_K (hK13 _ _ _ _ ?_)
                  refine c_cond rfl (fun h62 => ?_) (fun h62 => absurd ((hk6).symm.trans h62) (by decide))
                  have hb_ : sigBad q x = true := by rw [sigBad]; simp only [Bool.eq_false_iff.2 hk4, decide_eq_true hk5, hk6, Bool.true_and, Bool.and_true, Bool.false_and, Bool.and_false, Bool.true_or, Bool.or_true, Bool.false_or, Bool.or_false, Bool.not_true, Bool.not_false]
                  have hF : sigsL none l = false := by rw [hinv, sigsL_at hx_x, okP_at hx_q (by omega), hb_]; simp
                  refine c_seq fun K15 hK15 => ?_
                  refine c_region ?_
                  refine sv (o_as rfl) rfl ?_
                  refine l_nil ?_
                  refine e_K (hK15 _ _ _ _ ?_)
                  refine c_ret ?_
                  refine e_in (by simp) ?_
                  refine e_then (by simp) ?_
                  refine e_then (by simp) ?_
                  refine e_in (by simp) ?_
                  refine e_then (by simp) ?_
                  exact ret1 rfl rfl ⟨by rw [hF], E⟩
                · skip
                  refine c_draw wide (by kernel_rfl) ?_
                  refine tv (fun w_ E_ => (o_mv rfl)) rfl rfl ?_
                  refine tv (fun w_ E_ => (o_gtr rfl rfl)) rfl rfl ?_
                  refine tv (fun w_ E_ => (o_mv rfl)) rfl rfl ?_
                  refine tvg rfl (decide_eq_true hk3) (fun w_ E_ => (o_mv rfl)) rfl rfl ?_
                  refine tvg rfl (decide_eq_true hk3) (fun w_ E_ => (o_mv rfl)) rfl rfl ?_
                  refine tvg rfl (decide_eq_true hk3) (fun w_ E_ => (o_subE (r := ((k - 1 : Nat) : Int)) rfl rfl (by rw [wrap64_in _ (by omega)]; omega))) rfl rfl ?_
                  refine tvg rfl (decide_eq_true hk3) (fun w_ E_ => (o_ix sl31 rfl rfl (by omega))) rfl rfl ?_
                  refine tvg rfl (decide_eq_true hk3) (fun w_ E_ => (o_fad fd58_0 rfl)) rfl rfl ?_
                  refine tvg rfl (decide_eq_true hk3) (fun w_ E_ => (o_ld sc9 rfl ((hcs_q.mod0 E_) 0 _ rfl))) rfl rfl ?_
                  refine tvg rfl (decide_eq_true hk3) (fun w_ E_ => (o_fa0 fd58_0 rfl)) rfl rfl ?_
                  refine tvg rfl (decide_eq_true hk3) (fun w_ E_ => (o_ld sc9 rfl ((Bg1.mod0 E_).cell rfl))) rfl rfl ?_
                  refine tvg rfl (decide_eq_true hk3) (fun w_ E_ => (o_sgt rfl rfl)) rfl rfl ?_
                  refine tvg rfl (decide_eq_true hk3) (fun w_ E_ => (o_mv rfl)) rfl rfl ?_
                  refine tvg rfl (Bool.eq_false_iff.2 hk4) (fun w_ E_ => (o_mv rfl)) rfl rfl ?_
                  refine tvg rfl (Bool.eq_false_iff.2 hk4) (fun w_ E_ => (o_mv rfl)) rfl rfl ?_
                  refine tvg rfl (Bool.eq_false_iff.2 hk4) (fun w_ E_ => (o_subE (r := ((k - 1 : Nat) : Int)) rfl rfl (by rw [wrap64_in _ (by omega)]; omega))) rfl rfl ?_
                  refine tvg rfl (Bool.eq_false_iff.2 hk4) (fun w_ E_ => (o_ix sl31 rfl rfl (by omega))) rfl rfl ?_
                  refine tvg rfl (Bool.eq_false_iff.2 hk4) (fun w_ E_ => (o_fad fd58_0 rfl)) rfl rfl ?_
                  refine tvg rfl (Bool.eq_false_iff.2 hk4) (fun w_ E_ => (o_ld sc9 rfl ((hcs_q.mod0 E_) 0 _ rfl))) rfl rfl ?_
                  refine tvg rfl (Bool.eq_false_iff.2 hk4) (fun w_ E_ => (o_fa0 fd58_0 rfl)) rfl rfl ?_
                  refine tvg rfl (Bool.eq_false_iff.2 hk4) (fun w_ E_ => (o_ld sc9 rfl ((Bg1.mod0 E_).cell rfl))) rfl rfl ?_
                  refine tvg rfl (Bool.eq_false_iff.2 hk4) (fun w_ E_ => (o_seq rfl rfl)) rfl rfl ?_
                  refine tvg rfl (Bool.eq_false_iff.2 hk4) (fun w_ E_ => (o_mv rfl)) rfl rfl ?_
                  refine tvg rfl (decide_eq_true hk5) (fun w_ E_ => (o_mv rfl)) rfl rfl ?_
                  refine tvg rfl (decide_eq_true hk5) (fun w_ E_ => (o_mv rfl)) rfl rfl ?_
                  refine tvg rfl (decide_eq_true hk5) (fun w_ E_ => (o_subE (r := ((k - 1 : Nat) : Int)) rfl rfl (by rw [wrap64_in _ (by omega)]; omega))) rfl rfl ?_
                  refine tvg rfl (decide_eq_true hk5) (fun w_ E_ => (o_ix sl31 rfl rfl (by omega))) rfl rfl ?_
                  refine tvg rfl (decide_eq_true hk5) (fun w_ E_ => (o_fad fd58_1 rfl)) rfl rfl ?_
                  refine tvg rfl (decide_eq_true hk5) (fun w_ E_ => (o_ld sc9 rfl ((hcs_q.mod0 E_) 1 _ rfl))) rfl rfl ?_
                  refine tvg rfl (decide_eq_true hk5) (fun w_ E_ => (o_fa0 fd58_1 rfl)) rfl rfl ?_
                  refine tvg rfl (decide_eq_true hk5) (fun w_ E_ => (o_ld sc9 rfl ((Bg1.mod0 E_).cell rfl))) rfl rfl ?_
                  refine tvg rfl (decide_eq_true hk5) (fun w_ E_ => (o_sge rfl rfl)) rfl rfl ?_
                  refine tvg rfl (Bool.eq_false_iff.2 hk4) (fun w_ E_ => (o_pickT (decide_eq_true hk5) rfl rfl)) rfl rfl ?_
                  refine tvg rfl (decide_eq_true hk3) (fun w_ E_ => (o_pickF (Bool.eq_false_iff.2 hk4) rfl rfl)) rfl rfl ?_
                  refine tv (fun w_ E_ => (o_pickT (decide_eq_true hk3) rfl rfl)) rfl rfl ?_
                  refine tw_nil rfl fun w15 E_ => ?_
                  replace Bg1 := Bg1.mod0 E_
                  replace E := E.then E_
                  refine e_K (hK13 _ _ _ _ ?_)
                  refine c_cond rfl (fun h62 => absurd ((Bool.eq_false_iff.2 hk6).symm.trans h62) (by decide)) (fun h62 => ?_)
                  have hb_ : sigBad q x = false := by rw [sigBad]; simp only [Bool.eq_false_iff.2 hk4, decide_eq_true hk5, Bool.eq_false_iff.2 hk6, Bool.true_and, Bool.and_true, Bool.false_and, Bool.and_false, Bool.true_or, Bool.or_true, Bool.false_or, Bool.or_false, Bool.not_true, Bool.not_false]
                  have hnx : sigsL none l = sigsL (prevS l (k + 1)) (l.drop (k + 1)) := by rw [hinv, sigsL_at hx_x, hsg, okP_at hx_q (by omega), hb_]; rfl
                  refine c_skip ?_
                  refine e_in (by simp) ?_
                  refine e_K (hK6 _ _ _ _ ?_)
                  refine c_region ?_
                  refine sv (o_addN rfl rfl (by omega)) rfl ?_
                  refine sv (o_mv rfl) rfl ?_
                  refine l_nil ?_
                  exact e_round (σ := Nat) (s := k) (k + 1) ⟨rfl, rfl, rfl, rfl, trivial⟩ ⟨by omega, hnx, E⟩ (by omega)
              · skip
                refine c_draw wide (by kernel_rfl) ?_
                refine tv (fun w_ E_ => (o_mv rfl)) rfl rfl ?_
                refine tv (fun w_ E_ => (o_gtr rfl rfl)) rfl rfl ?_
                refine tv (fun w_ E_ => (o_mv rfl)) rfl rfl ?_
                refine tvg rfl (decide_eq_true hk3) (fun w_ E_ => (o_mv rfl)) rfl rfl ?_
                refine tvg rfl (decide_eq_true hk3) (fun w_ E_ => (o_mv rfl)) rfl rfl ?_
                refine tvg rfl (decide_eq_true hk3) (fun w_ E_ => (o_subE (r := ((k - 1 : Nat) : Int)) rfl rfl (by rw [wrap64_in _ (by omega)]; omega))) rfl rfl ?_
                refine tvg rfl (decide_eq_true hk3) (fun w_ E_ => (o_ix sl31 rfl rfl (by omega))) rfl rfl ?_
                refine tvg rfl (decide_eq_true hk3) (fun w_ E_ => (o_fad fd58_0 rfl)) rfl rfl ?_
                refine tvg rfl (decide_eq_true hk3) (fun w_ E_ => (o_ld sc9 rfl ((hcs_q.mod0 E_) 0 _ rfl))) rfl rfl ?_
                refine tvg rfl (decide_eq_true hk3) (fun w_ E_ => (o_fa0 fd58_0 rfl)) rfl rfl ?_
                refine tvg rfl (decide_eq_true hk3) (fun w_ E_ => (o_ld sc9 rfl ((Bg1.mod0 E_).cell rfl))) rfl rfl ?_
                refine tvg rfl (decide_eq_true hk3) (fun w_ E_ => (o_sgt rfl rfl)) rfl rfl ?_
                refine tvg rfl (decide_eq_true hk3) (fun w_ E_ => (o_mv rfl)) rfl rfl ?_
                refine tvg rfl (Bool.eq_false_iff.2 hk4) (fun w_ E_ => (o_mv rfl)) rfl rfl ?_
                refine tvg rfl (Bool.eq_false_iff.2 hk4) (fun w_ E_ => (o_mv rfl)) rfl rfl ?_
                refine tvg rfl (Bool.eq_false_iff.2 hk4) (fun w_ E_ => (o_subE (r := ((k - 1 : Nat) : Int)) rfl rfl (by rw [wrap64_in _ (by omega)]; omega))) rfl rfl ?_
                refine tvg rfl (Bool.eq_false_iff.2 hk4) (fun w_ E_ => (o_ix sl31 rfl rfl (by omega))) rfl rfl ?_
                refine tvg rfl (Bool.eq_false_iff.2 hk4) (fun w_ E_ => (o_fad fd58_0 rfl)) rfl rfl ?_
                refine tvg rfl (Bool.eq_false_iff.2 hk4) (fun w_ E_ => (o_ld sc9 rfl ((hcs_q.mod0 E_) 0 _ rfl))) rfl rfl ?_
                refine tvg rfl (Bool.eq_false_iff.2 hk4) (fun w_ E_ => (o_fa0 fd58_0 rfl)) rfl rfl ?_
                refine tvg rfl (Bool.eq_false_iff.2 hk4) (fun w_ E_ => (o_ld sc9 rfl ((Bg1.mod0 E_).cell rfl))) rfl rfl ?_
                refine tvg rfl (Bool.eq_false_iff.2 hk4) (fun w_ E_ => (o_seq rfl rfl)) rfl rfl ?_
                refine tvg rfl (Bool.eq_false_iff.2 hk4) (fun w_ E_ => (o_mv rfl)) rfl rfl ?_
                refine tn rfl (fun e_ => absurd ((decide_eq_false hk5).symm.trans e_) (by decide)) rfl ?_
                refine tn rfl (fun e_ => absurd ((decide_eq_false hk5).symm.trans e_) (by decide)) rfl ?_
                refine tn rfl (fun e_ => absurd ((decide_eq_false hk5).symm.trans e_) (by decide)) rfl ?_
                refine tn rfl (fun e_ => absurd ((decide_eq_false hk5).symm.trans e_) (by decide)) rfl ?_
                refine tn rfl (fun e_ => absurd ((decide_eq_false hk5).symm.trans e_) (by decide)) rfl ?_
                refine tn rfl (fun e_ => absurd ((decide_eq_false hk5).symm.trans e_) (by decide)) rfl ?_
                refine tn rfl (fun e_ => absurd ((decide_eq_false hk5).symm.trans e_) (by decide)) rfl ?_
                refine tn rfl (fun e_ => absurd ((decide_eq_false hk5).symm.trans e_) (by decide)) rfl ?_
                refine tn rfl (fun e_ => absurd ((decide_eq_false hk5).symm.trans e_) (by decide)) rfl ?_
                refine tvg rfl (Bool.eq_false_iff.2 hk4) (fun w_ E_ => (o_pickF (decide_eq_false hk5) rfl rfl)) rfl rfl ?_
                refine tvg rfl (decide_eq_true hk3) (fun w_ E_ => (o_pickF (Bool.eq_false_iff.2 hk4) rfl rfl)) rfl rfl ?_
                refine tv (fun w_ E_ => (o_pickT (decide_eq_true hk3) rfl rfl)) rfl rfl ?_
                refine tw_nil rfl fun w16 E_ => ?_
                replace Bg1 := Bg1.mod0 E_
                replace E := E.then E_
                refine e_K (hK13 _ _ _ _ ?_)
                refine c_false rfl ?_
                have hb_ : sigBad q x = false := by rw [sigBad]; simp only [Bool.eq_false_iff.2 hk4, decide_eq_false hk5, Bool.true_and, Bool.and_true, Bool.false_and, Bool.and_false, Bool.true_or, Bool.or_true, Bool.false_or, Bool.or_false, Bool.not_true, Bool.not_false]
                have hnx : sigsL none l = sigsL (prevS l (k + 1)) (l.drop (k + 1)) := by rw [hinv, sigsL_at hx_x, hsg, okP_at hx_q (by omega), hb_]; rfl
                refine c_skip ?_
                refine e_in (by simp) ?_
                refine e_K (hK6 _ _ _ _ ?_)
                refine c_region ?_
                refine sv (o_addN rfl rfl (by omega)) rfl ?_
                refine sv (o_mv rfl) rfl ?_
                refine l_nil ?_
                exact e_round (σ := Nat) (s := k) (k + 1) ⟨rfl, rfl, rfl, rfl, trivial⟩ ⟨by omega, hnx, E⟩ (by omega)
          · skip
            refine c_draw wide (by kernel_rfl) ?_
            refine tv (fun w_ E_ => (o_mv rfl)) rfl rfl ?_
            refine tv (fun w_ E_ => (o_gtr rfl rfl)) rfl rfl ?_
            refine tv (fun w_ E_ => (o_mv rfl)) rfl rfl ?_
            refine tn rfl (fun e_ => absurd ((decide_eq_false hk3).symm.trans e_) (by decide)) rfl ?_
            refine tn rfl (fun e_ => absurd ((decide_eq_false hk3).symm.trans e_) (by decide)) rfl ?_
            refine tn rfl (fun e_ => absurd ((decide_eq_false hk3).symm.trans e_) (by decide)) rfl ?_
            refine tn rfl (fun e_ => absurd ((decide_eq_false hk3).symm.trans e_) (by decide)) rfl ?_
            refine tn rfl (fun e_ => absurd ((decide_eq_false hk3).symm.trans e_) (by decide)) rfl ?_
            refine tn rfl (fun e_ => absurd ((decide_eq_false hk3).symm.trans e_) (by decide)) rfl ?_
            refine tn rfl (fun e_ => absurd ((decide_eq_false hk3).symm.trans e_) (by decide)) rfl ?_
            refine tn rfl (fun e_ => absurd ((decide_eq_false hk3).symm.trans e_) (by decide)) rfl ?_
            refine tn rfl (fun e_ => absurd ((decide_eq_false hk3).symm.trans e_) (by decide)) rfl ?_
            refine tn rfl (fun e_ => absurd ((decide_eq_false hk3).symm.trans e_) (by decide)) rfl ?_
            refine tnu rfl rfl rfl ?_
            refine tnu rfl rfl rfl ?_
            refine tnu rfl rfl rfl ?_
            refine tnu rfl rfl rfl ?_
            refine tnu rfl rfl rfl ?_
            refine tnu rfl rfl rfl ?_
            refine tnu rfl rfl rfl ?_
            refine tnu rfl rfl rfl ?_
            refine tnu rfl rfl rfl ?_
            refine tnu rfl rfl rfl ?_
            refine tnu rfl rfl rfl ?_
            refine tnu rfl rfl rfl ?_
            refine tnu rfl rfl rfl ?_
            refine tnu rfl rfl rfl ?_
            refine tnu rfl rfl rfl ?_
            refine tnu rfl rfl rfl ?_
            refine tnu rfl rfl rfl ?_
            refine tnu rfl rfl rfl ?_
            refine tnu rfl rfl rfl ?_
            refine tnu rfl rfl rfl ?_
            refine tn rfl (fun e_ => absurd ((decide_eq_false hk3).symm.trans e_) (by decide)) rfl ?_
            refine tv (fun w_ E_ => (o_pickF (decide_eq_false hk3) rfl rfl)) rfl rfl ?_
            refine tw_nil rfl fun w17 E_ => ?_
            replace Bg1 := Bg1.mod0 E_
            replace E := E.then E_
            refine e_K (hK13 _ _ _ _ ?_)
            refine c_false rfl ?_
            have hnx : sigsL none l = sigsL (prevS l (k + 1)) (l.drop (k + 1)) := by rw [hinv, sigsL_at hx_x, hsg, okP_0 (by omega)]; rfl
            refine c_skip ?_
            refine e_in (by simp) ?_
            refine e_K (hK6 _ _ _ _ ?_)
            refine c_region ?_
            refine sv (o_addN rfl rfl (by omega)) rfl ?_
            refine sv (o_mv rfl) rfl ?_
            refine l_nil ?_
            exact e_round (σ := Nat) (s := k) (k + 1) ⟨rfl, rfl, rfl, rfl, trivial⟩ ⟨by omega, hnx, E⟩ (by omega)
  · skip
    refine c_exit ?_
    refine e_then (by simp) ?_
    refine e_then (by simp) ?_
    refine e_hit ?_
    refine e_K (hK2 _ _ _ _ ?_)
    refine c_seq fun K16 hK16 => ?_
    refine c_region ?_
    refine sv (o_as rfl) rfl ?_
    refine l_nil ?_
    refine e_K (hK16 _ _ _ _ ?_)
    refine c_ret ?_
    exact ret1 rfl rfl ⟨by rw [hinv, sigsL_end (by omega)], E⟩
end Go.Proofs.YtkhbnhdlelmbnaaDoor.V
