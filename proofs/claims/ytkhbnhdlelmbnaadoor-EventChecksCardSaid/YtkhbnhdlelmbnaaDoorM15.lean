/-
  A part of the proof: walks of functions. No condition of its own.
-/
import Derived.Test.YtkhbnhdlelmbnaaDoorM14
set_option linter.unusedVariables false
set_option linter.unusedSimpArgs false
set_option maxRecDepth 10000
namespace Go.Proofs.YtkhbnhdlelmbnaaDoor.V
open Go Go.Proofs
theorem ent65 : Ent Tryd.prog 65 := Ent.of Tryd.func65 (by kernel_rfl) (by kernel_rfl)
theorem ent66 : Ent Tryd.prog 66 := Ent.of Tryd.func66 (by kernel_rfl) (by kernel_rfl)
theorem ent32 : Ent Tryd.prog 32 := Ent.of Tryd.func32 (by kernel_rfl) (by kernel_rfl)
theorem ent67 : Ent Tryd.prog 67 := Ent.of Tryd.func67 (by kernel_rfl) (by kernel_rfl)
theorem c_colon (w : World) (s : Str) (hs : s.length ≤ 140737488351232) : Calls Tryd.prog 65 [S s].toArray w (Ret fun u w' => u = .int .i64 (colonAt s : Int) ∧ Mod [] w w') := by
  refine enter Tryd.func65 rfl rfl rfl (l := [(0, _)]) ⟨rfl, trivial⟩ ?_
  have E := Mod.refl [] w
  refine c_seq fun K1 hK1 => ?_
  refine c_region ?_
  refine sv (o_as rfl) rfl ?_
  refine l_nil ?_
  refine e_K (hK1 _ _ _ _ ?_)
  refine c_seq fun K2 hK2 => ?_
  refine c_seq fun K3 hK3 => ?_
  refine c_region ?_
  refine sv (o_as rfl) rfl ?_
  refine l_nil ?_
  refine e_K (hK3 _ _ _ _ ?_)
  refine c_block ?_
  refine c_loop (σ := Nat) (fun i => [(0, S s), (3, .int .i64 (i : Int))]) (fun i w1 => i ≤ s.length ∧ (∀ j b, j < i → s[j]? = some b → b ≠ 58) ∧ Mod [] w w1) (fun i => s.length - i) (0) ⟨rfl, rfl, trivial⟩ (⟨by omega, fun j b h => absurd h (by omega), E⟩) ?_
  rintro i w1 ⟨hi, ha, E⟩
  refine c_seq fun K4 hK4 => ?_
  refine c_seq fun K5 hK5 => ?_
  refine c_region ?_
  refine sv (o_mv rfl) rfl ?_
  refine sv (o_mv rfl) rfl ?_
  refine sv (o_slen Tryd.underlying9 rfl) rfl ?_
  refine sv (o_lss rfl rfl) rfl ?_
  refine l_nil ?_
  refine e_K (hK5 _ _ _ _ ?_)
  refine c_if rfl (fun h7 => ?_) (fun h7 => ?_)
  · skip
    obtain ⟨b, hb⟩ : ∃ b, s[i]? = some b := ⟨_, List.getElem?_eq_getElem (by omega)⟩
    refine c_skip ?_
    refine e_K (hK4 _ _ _ _ ?_)
    refine c_seq fun K6 hK6 => ?_
    refine c_block ?_
    refine c_seq fun K7 hK7 => ?_
    refine c_region ?_
    refine sv (o_mv rfl) rfl ?_
    refine sv (o_mv rfl) rfl ?_
    refine sv (o_sidx Tryd.underlying9 rfl rfl (by omega) (by rw [Int.toNat_natCast]; exact hb)) rfl ?_
    refine sv (o_eql rfl rfl) rfl ?_
    refine l_nil ?_
    refine e_K (hK7 _ _ _ _ ?_)
    refine c_if rfl (fun h13 => ?_) (fun h13 => ?_)
    · skip
      have hC : colonAt s = i := colon_at hb ha (u8_eq h13)
      refine c_seq fun K8 hK8 => ?_
      refine c_region ?_
      refine sv (o_mv rfl) rfl ?_
      refine sv (o_as rfl) rfl ?_
      refine l_nil ?_
      refine e_K (hK8 _ _ _ _ ?_)
      refine c_ret ?_
      refine e_in (by simp) ?_
      refine e_then (by simp) ?_
      refine e_then (by simp) ?_
      refine e_in (by simp) ?_
      refine e_then (by simp) ?_
      exact ret1 rfl rfl ⟨by rw [hC], E⟩
    · skip
      have hne : b ≠ 58 := fun h => h13 (by rw [h]; rfl)
      refine c_skip ?_
      refine e_in (by simp) ?_
      refine e_K (hK6 _ _ _ _ ?_)
      refine c_region ?_
      refine sv (o_mv rfl) rfl ?_
      refine sv (o_addN rfl rfl (by omega)) rfl ?_
      refine sv (o_as rfl) rfl ?_
      refine l_nil ?_
      exact e_round (σ := Nat) (s := i) (i + 1) ⟨rfl, rfl, trivial⟩ ⟨by omega, fun j b_ hj h_ => (Nat.lt_succ_iff_lt_or_eq.1 hj).elim (fun h => ha j b_ h h_) (fun h => by subst h; rw [hb] at h_; injection h_ with h_; rw [← h_]; exact hne), E⟩ (by omega)
  · skip
    have hC := colon_none (s := s) (fun j b hj h => ha j b (by omega) h)
    refine c_exit ?_
    refine e_then (by simp) ?_
    refine e_then (by simp) ?_
    refine e_hit ?_
    refine e_K (hK2 _ _ _ _ ?_)
    refine c_seq fun K9 hK9 => ?_
    refine c_region ?_
    refine sv (o_mv rfl) rfl ?_
    refine sv (o_slen Tryd.underlying9 rfl) rfl ?_
    refine sv (o_as rfl) rfl ?_
    refine l_nil ?_
    refine e_K (hK9 _ _ _ _ ?_)
    refine c_ret ?_
    exact ret1 rfl rfl ⟨by rw [hC], E⟩

theorem c_of (w : World) (s kinds signs : Str) (hs : s.length ≤ 140737488351232) (hk : kinds.length ≤ 100) (hg : signs.length ≤ 100) : Calls Tryd.prog 66 [S s, S kinds, S signs].toArray w (Ret fun u w' => u = .bool (allB (okQ kinds signs) s) ∧ Mod [] w w') := by
  refine enter Tryd.func66 rfl rfl rfl (l := [(0, _), (1, _), (2, _)]) ⟨rfl, rfl, rfl, trivial⟩ ?_
  have E := Mod.refl [] w
  refine c_seq fun K1 hK1 => ?_
  refine c_region ?_
  refine sv (o_as rfl) rfl ?_
  refine l_nil ?_
  refine e_K (hK1 _ _ _ _ ?_)
  refine c_seq fun K2 hK2 => ?_
  refine c_seq fun K3 hK3 => ?_
  refine c_region ?_
  refine sv (o_as rfl) rfl ?_
  refine l_nil ?_
  refine e_K (hK3 _ _ _ _ ?_)
  refine c_block ?_
  refine c_loop (σ := Nat) (fun i => [(0, S s), (1, S kinds), (2, S signs), (7, .int .i64 (i : Int))]) (fun i w1 => i ≤ s.length ∧ (s.take i).all (fun b => okQ kinds signs b.toNat) = true ∧ Mod [] w w1) (fun i => s.length - i) (0) ⟨rfl, rfl, rfl, rfl, trivial⟩ (⟨by omega, by simp, E⟩) ?_
  rintro i w1 ⟨hi, ha, E⟩
  refine c_seq fun K4 hK4 => ?_
  refine c_seq fun K5 hK5 => ?_
  refine c_region ?_
  refine sv (o_mv rfl) rfl ?_
  refine sv (o_mv rfl) rfl ?_
  refine sv (o_slen Tryd.underlying9 rfl) rfl ?_
  refine sv (o_lss rfl rfl) rfl ?_
  refine l_nil ?_
  refine e_K (hK5 _ _ _ _ ?_)
  refine c_if rfl (fun h15 => ?_) (fun h15 => ?_)
  · skip
    obtain ⟨c, hc⟩ : ∃ c, s[i]? = some c := ⟨_, List.getElem?_eq_getElem (by omega)⟩
    refine c_skip ?_
    refine e_K (hK4 _ _ _ _ ?_)
    refine c_seq fun K6 hK6 => ?_
    refine c_block ?_
    refine c_seq fun K7 hK7 => ?_
    refine c_region ?_
    refine sv (o_mv rfl) rfl ?_
    refine sv (o_mv rfl) rfl ?_
    refine sv (o_sidx Tryd.underlying9 rfl rfl (by omega) (by rw [Int.toNat_natCast]; exact hc)) rfl ?_
    refine sv (o_as rfl) rfl ?_
    refine l_nil ?_
    refine e_K (hK7 _ _ _ _ ?_)
    refine c_seq fun K8 hK8 => ?_
    refine c_region ?_
    refine sv (o_as rfl) rfl ?_
    refine l_nil ?_
    refine e_K (hK8 _ _ _ _ ?_)
    refine c_seq fun K9 hK9 => ?_
    refine c_seq fun K10 hK10 => ?_
    refine c_region ?_
    refine sv (o_as rfl) rfl ?_
    refine l_nil ?_
    refine e_K (hK10 _ _ _ _ ?_)
    refine c_block ?_
    refine c_loop (σ := Nat × Bool) (fun ⟨j, x⟩ => [(0, S s), (1, S kinds), (2, S signs), (7, .int .i64 (i : Int)), (8, .int .u8 (c.toNat : Int)), (9, .bool x), (10, .int .i64 (j : Int))]) (fun ⟨j, x⟩ w1 => j ≤ kinds.length ∧ x = (kinds.take j).any (okK1 c.toNat) ∧ Mod [] w w1) (fun ⟨j, x⟩ => kinds.length - j) (⟨0, false⟩) ⟨rfl, rfl, rfl, rfl, rfl, rfl, rfl, trivial⟩ (⟨by omega, by simp, E⟩) ?_
    rintro ⟨j, x⟩ w2 ⟨hj, hx, E⟩
    refine c_seq fun K11 hK11 => ?_
    refine c_seq fun K12 hK12 => ?_
    refine c_region ?_
    refine sv (o_mv rfl) rfl ?_
    refine sv (o_mv rfl) rfl ?_
    refine sv (o_slen Tryd.underlying9 rfl) rfl ?_
    refine sv (o_lss rfl rfl) rfl ?_
    refine l_nil ?_
    refine e_K (hK12 _ _ _ _ ?_)
    refine c_if rfl (fun h24 => ?_) (fun h24 => ?_)
    · skip
      obtain ⟨g, hgj⟩ : ∃ g, kinds[j]? = some g := ⟨_, List.getElem?_eq_getElem (by omega)⟩
      refine c_skip ?_
      refine e_K (hK11 _ _ _ _ ?_)
      refine c_seq fun K13 hK13 => ?_
      refine c_block ?_
      by_cases hk0 : (x) = true
      · skip
        refine c_region ?_
        refine sv (o_mv rfl) rfl ?_
        refine sv (o_mv rfl) rfl ?_
        refine sn rfl (fun e_ => absurd ((hk0).symm.trans e_) (by decide)) rfl ?_
        refine sn rfl (fun e_ => absurd ((hk0).symm.trans e_) (by decide)) rfl ?_
        refine sn rfl (fun e_ => absurd ((hk0).symm.trans e_) (by decide)) rfl ?_
        refine sn rfl (fun e_ => absurd ((hk0).symm.trans e_) (by decide)) rfl ?_
        refine sn rfl (fun e_ => absurd ((hk0).symm.trans e_) (by decide)) rfl ?_
        refine snu rfl rfl rfl ?_
        refine snu rfl rfl rfl ?_
        refine sn rfl (fun e_ => absurd ((hk0).symm.trans e_) (by decide)) rfl ?_
        refine sn rfl (fun e_ => absurd ((hk0).symm.trans e_) (by decide)) rfl ?_
        refine snu rfl rfl rfl ?_
        refine snu rfl rfl rfl ?_
        refine sn rfl (fun e_ => absurd ((hk0).symm.trans e_) (by decide)) rfl ?_
        refine sv (o_pickT (hk0) rfl rfl) rfl ?_
        refine sv (o_mv rfl) rfl ?_
        refine sn rfl (fun e_ => absurd ((rfl).symm.trans e_) (by decide)) rfl ?_
        refine sn rfl (fun e_ => absurd ((rfl).symm.trans e_) (by decide)) rfl ?_
        refine sn rfl (fun e_ => absurd ((rfl).symm.trans e_) (by decide)) rfl ?_
        refine sn rfl (fun e_ => absurd ((rfl).symm.trans e_) (by decide)) rfl ?_
        refine sn rfl (fun e_ => absurd ((rfl).symm.trans e_) (by decide)) rfl ?_
        refine snu rfl rfl rfl ?_
        refine snu rfl rfl rfl ?_
        refine sn rfl (fun e_ => absurd ((rfl).symm.trans e_) (by decide)) rfl ?_
        refine sn rfl (fun e_ => absurd ((rfl).symm.trans e_) (by decide)) rfl ?_
        refine snu rfl rfl rfl ?_
        refine snu rfl rfl rfl ?_
        refine sn rfl (fun e_ => absurd ((rfl).symm.trans e_) (by decide)) rfl ?_
        refine sv (o_pickT (rfl) rfl rfl) rfl ?_
        refine sv (o_mv rfl) rfl ?_
        refine sn rfl (fun e_ => absurd ((rfl).symm.trans e_) (by decide)) rfl ?_
        refine sn rfl (fun e_ => absurd ((rfl).symm.trans e_) (by decide)) rfl ?_
        refine sn rfl (fun e_ => absurd ((rfl).symm.trans e_) (by decide)) rfl ?_
        refine sn rfl (fun e_ => absurd ((rfl).symm.trans e_) (by decide)) rfl ?_
        refine sn rfl (fun e_ => absurd ((rfl).symm.trans e_) (by decide)) rfl ?_
        refine snu rfl rfl rfl ?_
        refine snu rfl rfl rfl ?_
        refine sn rfl (fun e_ => absurd ((rfl).symm.trans e_) (by decide)) rfl ?_
        refine sn rfl (fun e_ => absurd ((rfl).symm.trans e_) (by decide)) rfl ?_
        refine snu rfl rfl rfl ?_
        refine snu rfl rfl rfl ?_
        refine sn rfl (fun e_ => absurd ((rfl).symm.trans e_) (by decide)) rfl ?_
        refine sv (o_pickT (rfl) rfl rfl) rfl ?_
        refine sv ((o_as rfl).to (v' := .bool (x || okK1 c.toNat g)) (congrArg Value.bool (by simp only [okK1, hk0, Bool.true_and, Bool.and_true, Bool.false_and, Bool.and_false, Bool.true_or, Bool.or_true, Bool.false_or, Bool.or_false, Bool.not_true, Bool.not_false]))) rfl ?_
        refine l_nil ?_
        refine e_in (by simp) ?_
        refine e_K (hK13 _ _ _ _ ?_)
        refine c_region ?_
        refine sv (o_mv rfl) rfl ?_
        refine sv (o_addN rfl rfl (by omega)) rfl ?_
        refine sv (o_as rfl) rfl ?_
        refine l_nil ?_
        exact e_round (σ := Nat × Bool) (s := ⟨j, x⟩) (⟨j + 1, (x || okK1 c.toNat g)⟩) ⟨rfl, rfl, rfl, rfl, rfl, rfl, rfl, trivial⟩ ⟨by omega, by rw [any_succ' _ hgj, ← hx], E⟩ (by dsimp only; omega)
      · skip
        by_cases hk97 : (g.toNat : Int) = 97
        · skip
          by_cases hk971 : (c.toNat : Int) ≥ 97
          · skip
            by_cases hk972 : (c.toNat : Int) ≤ 122
            · skip
              refine c_region ?_
              refine sv (o_mv rfl) rfl ?_
              refine sv (o_mv rfl) rfl ?_
              refine sg rfl (Bool.eq_false_iff.2 hk0) (o_mv rfl) rfl ?_
              refine sg rfl (Bool.eq_false_iff.2 hk0) (o_mv rfl) rfl ?_
              refine sg rfl (Bool.eq_false_iff.2 hk0) (o_sidx Tryd.underlying9 rfl rfl (by omega) (by rw [Int.toNat_natCast]; exact hgj)) rfl ?_
              refine sg rfl (Bool.eq_false_iff.2 hk0) (o_eql rfl rfl) rfl ?_
              refine sg rfl (Bool.eq_false_iff.2 hk0) (o_mv rfl) rfl ?_
              refine sg rfl (decide_eq_true hk97) (o_mv rfl) rfl ?_
              refine sg rfl (decide_eq_true hk97) (o_geq rfl rfl) rfl ?_
              refine sg rfl (Bool.eq_false_iff.2 hk0) (o_pickT (decide_eq_true hk97) rfl rfl) rfl ?_
              refine sg rfl (Bool.eq_false_iff.2 hk0) (o_mv rfl) rfl ?_
              refine sg rfl (decide_eq_true hk971) (o_mv rfl) rfl ?_
              refine sg rfl (decide_eq_true hk971) (o_leq rfl rfl) rfl ?_
              refine sg rfl (Bool.eq_false_iff.2 hk0) (o_pickT (decide_eq_true hk971) rfl rfl) rfl ?_
              refine sv (o_pickF (Bool.eq_false_iff.2 hk0) rfl rfl) rfl ?_
              refine sv (o_mv rfl) rfl ?_
              refine sn rfl (fun e_ => absurd ((decide_eq_true hk972).symm.trans e_) (by decide)) rfl ?_
              refine sn rfl (fun e_ => absurd ((decide_eq_true hk972).symm.trans e_) (by decide)) rfl ?_
              refine sn rfl (fun e_ => absurd ((decide_eq_true hk972).symm.trans e_) (by decide)) rfl ?_
              refine sn rfl (fun e_ => absurd ((decide_eq_true hk972).symm.trans e_) (by decide)) rfl ?_
              refine sn rfl (fun e_ => absurd ((decide_eq_true hk972).symm.trans e_) (by decide)) rfl ?_
              refine snu rfl rfl rfl ?_
              refine snu rfl rfl rfl ?_
              refine sn rfl (fun e_ => absurd ((decide_eq_true hk972).symm.trans e_) (by decide)) rfl ?_
              refine sn rfl (fun e_ => absurd ((decide_eq_true hk972).symm.trans e_) (by decide)) rfl ?_
              refine snu rfl rfl rfl ?_
              refine snu rfl rfl rfl ?_
              refine sn rfl (fun e_ => absurd ((decide_eq_true hk972).symm.trans e_) (by decide)) rfl ?_
              refine sv (o_pickT (decide_eq_true hk972) rfl rfl) rfl ?_
              refine sv (o_mv rfl) rfl ?_
              refine sn rfl (fun e_ => absurd ((rfl).symm.trans e_) (by decide)) rfl ?_
              refine sn rfl (fun e_ => absurd ((rfl).symm.trans e_) (by decide)) rfl ?_
              refine sn rfl (fun e_ => absurd ((rfl).symm.trans e_) (by decide)) rfl ?_
              refine sn rfl (fun e_ => absurd ((rfl).symm.trans e_) (by decide)) rfl ?_
              refine sn rfl (fun e_ => absurd ((rfl).symm.trans e_) (by decide)) rfl ?_
              refine snu rfl rfl rfl ?_
              refine snu rfl rfl rfl ?_
              refine sn rfl (fun e_ => absurd ((rfl).symm.trans e_) (by decide)) rfl ?_
              refine sn rfl (fun e_ => absurd ((rfl).symm.trans e_) (by decide)) rfl ?_
              refine snu rfl rfl rfl ?_
              refine snu rfl rfl rfl ?_
              refine sn rfl (fun e_ => absurd ((rfl).symm.trans e_) (by decide)) rfl ?_
              refine sv (o_pickT (rfl) rfl rfl) rfl ?_
              refine sv ((o_as rfl).to (v' := .bool (x || okK1 c.toNat g)) (congrArg Value.bool (by simp only [okK1, Bool.eq_false_iff.2 hk0, decide_eq_true hk97, decide_eq_true hk971, decide_eq_true hk972, Bool.true_and, Bool.and_true, Bool.false_and, Bool.and_false, Bool.true_or, Bool.or_true, Bool.false_or, Bool.or_false, Bool.not_true, Bool.not_false]))) rfl ?_
              refine l_nil ?_
              refine e_in (by simp) ?_
              refine e_K (hK13 _ _ _ _ ?_)
              refine c_region ?_
              refine sv (o_mv rfl) rfl ?_
              refine sv (o_addN rfl rfl (by omega)) rfl ?_
              refine sv (o_as rfl) rfl ?_
              refine l_nil ?_
              exact e_round (σ := Nat × Bool) (s := ⟨j, x⟩) (⟨j + 1, (x || okK1 c.toNat g)⟩) ⟨rfl, rfl, rfl, rfl, rfl, rfl, rfl, trivial⟩ ⟨by omega, by rw [any_succ' _ hgj, ← hx], E⟩ (by dsimp only; omega)
            · skip
              refine c_region ?_
              refine sv (o_mv rfl) rfl ?_
              refine sv (o_mv rfl) rfl ?_
              refine sg rfl (Bool.eq_false_iff.2 hk0) (o_mv rfl) rfl ?_
              refine sg rfl (Bool.eq_false_iff.2 hk0) (o_mv rfl) rfl ?_
              refine sg rfl (Bool.eq_false_iff.2 hk0) (o_sidx Tryd.underlying9 rfl rfl (by omega) (by rw [Int.toNat_natCast]; exact hgj)) rfl ?_
              refine sg rfl (Bool.eq_false_iff.2 hk0) (o_eql rfl rfl) rfl ?_
              refine sg rfl (Bool.eq_false_iff.2 hk0) (o_mv rfl) rfl ?_
              refine sg rfl (decide_eq_true hk97) (o_mv rfl) rfl ?_
              refine sg rfl (decide_eq_true hk97) (o_geq rfl rfl) rfl ?_
              refine sg rfl (Bool.eq_false_iff.2 hk0) (o_pickT (decide_eq_true hk97) rfl rfl) rfl ?_
              refine sg rfl (Bool.eq_false_iff.2 hk0) (o_mv rfl) rfl ?_
              refine sg rfl (decide_eq_true hk971) (o_mv rfl) rfl ?_
              refine sg rfl (decide_eq_true hk971) (o_leq rfl rfl) rfl ?_
              refine sg rfl (Bool.eq_false_iff.2 hk0) (o_pickT (decide_eq_true hk971) rfl rfl) rfl ?_
              refine sv (o_pickF (Bool.eq_false_iff.2 hk0) rfl rfl) rfl ?_
              refine sv (o_mv rfl) rfl ?_
              refine sg rfl (decide_eq_false hk972) (o_mv rfl) rfl ?_
              refine sg rfl (decide_eq_false hk972) (o_mv rfl) rfl ?_
              refine sg rfl (decide_eq_false hk972) (o_sidx Tryd.underlying9 rfl rfl (by omega) (by rw [Int.toNat_natCast]; exact hgj)) rfl ?_
              refine sg rfl (decide_eq_false hk972) (o_eql rfl rfl) rfl ?_
              refine sg rfl (decide_eq_false hk972) (o_mv rfl) rfl ?_
              refine sn rfl (fun e_ => absurd ((decide_eq_false (show ¬ ((g.toNat : Int) = 65) by omega)).symm.trans e_) (by decide)) rfl ?_
              refine sn rfl (fun e_ => absurd ((decide_eq_false (show ¬ ((g.toNat : Int) = 65) by omega)).symm.trans e_) (by decide)) rfl ?_
              refine sg rfl (decide_eq_false hk972) (o_pickF (decide_eq_false (show ¬ ((g.toNat : Int) = 65) by omega)) rfl rfl) rfl ?_
              refine sg rfl (decide_eq_false hk972) (o_mv rfl) rfl ?_
              refine sn rfl (fun e_ => absurd ((rfl).symm.trans e_) (by decide)) rfl ?_
              refine sn rfl (fun e_ => absurd ((rfl).symm.trans e_) (by decide)) rfl ?_
              refine sg rfl (decide_eq_false hk972) (o_pickF (rfl) rfl rfl) rfl ?_
              refine sv (o_pickF (decide_eq_false hk972) rfl rfl) rfl ?_
              refine sv (o_mv rfl) rfl ?_
              refine sg rfl (rfl) (o_mv rfl) rfl ?_
              refine sg rfl (rfl) (o_mv rfl) rfl ?_
              refine sg rfl (rfl) (o_sidx Tryd.underlying9 rfl rfl (by omega) (by rw [Int.toNat_natCast]; exact hgj)) rfl ?_
              refine sg rfl (rfl) (o_eql rfl rfl) rfl ?_
              refine sg rfl (rfl) (o_mv rfl) rfl ?_
              refine sn rfl (fun e_ => absurd ((decide_eq_false (show ¬ ((g.toNat : Int) = 48) by omega)).symm.trans e_) (by decide)) rfl ?_
              refine sn rfl (fun e_ => absurd ((decide_eq_false (show ¬ ((g.toNat : Int) = 48) by omega)).symm.trans e_) (by decide)) rfl ?_
              refine sg rfl (rfl) (o_pickF (decide_eq_false (show ¬ ((g.toNat : Int) = 48) by omega)) rfl rfl) rfl ?_
              refine sg rfl (rfl) (o_mv rfl) rfl ?_
              refine sn rfl (fun e_ => absurd ((rfl).symm.trans e_) (by decide)) rfl ?_
              refine sn rfl (fun e_ => absurd ((rfl).symm.trans e_) (by decide)) rfl ?_
              refine sg rfl (rfl) (o_pickF (rfl) rfl rfl) rfl ?_
              refine sv (o_pickF (rfl) rfl rfl) rfl ?_
              refine sv ((o_as rfl).to (v' := .bool (x || okK1 c.toNat g)) (congrArg Value.bool (by simp only [okK1, Bool.eq_false_iff.2 hk0, decide_eq_true hk97, decide_eq_true hk971, decide_eq_false hk972, decide_eq_false (show ¬ ((g.toNat : Int) = 65) by omega), decide_eq_false (show ¬ ((g.toNat : Int) = 48) by omega), Bool.true_and, Bool.and_true, Bool.false_and, Bool.and_false, Bool.true_or, Bool.or_true, Bool.false_or, Bool.or_false, Bool.not_true, Bool.not_false]))) rfl ?_
              refine l_nil ?_
              refine e_in (by simp) ?_
              refine e_K (hK13 _ _ _ _ ?_)
              refine c_region ?_
              refine sv (o_mv rfl) rfl ?_
              refine sv (o_addN rfl rfl (by omega)) rfl ?_
              refine sv (o_as rfl) rfl ?_
              refine l_nil ?_
              exact e_round (σ := Nat × Bool) (s := ⟨j, x⟩) (⟨j + 1, (x || okK1 c.toNat g)⟩) ⟨rfl, rfl, rfl, rfl, rfl, rfl, rfl, trivial⟩ ⟨by omega, by rw [any_succ' _ hgj, ← hx], E⟩ (by dsimp only; omega)
          · skip
            refine c_region ?_
            refine sv (o_mv rfl) rfl ?_
            refine sv (o_mv rfl) rfl ?_
            refine sg rfl (Bool.eq_false_iff.2 hk0) (o_mv rfl) rfl ?_
            refine sg rfl (Bool.eq_false_iff.2 hk0) (o_mv rfl) rfl ?_
            refine sg rfl (Bool.eq_false_iff.2 hk0) (o_sidx Tryd.underlying9 rfl rfl (by omega) (by rw [Int.toNat_natCast]; exact hgj)) rfl ?_
            refine sg rfl (Bool.eq_false_iff.2 hk0) (o_eql rfl rfl) rfl ?_
            refine sg rfl (Bool.eq_false_iff.2 hk0) (o_mv rfl) rfl ?_
            refine sg rfl (decide_eq_true hk97) (o_mv rfl) rfl ?_
            refine sg rfl (decide_eq_true hk97) (o_geq rfl rfl) rfl ?_
            refine sg rfl (Bool.eq_false_iff.2 hk0) (o_pickT (decide_eq_true hk97) rfl rfl) rfl ?_
            refine sg rfl (Bool.eq_false_iff.2 hk0) (o_mv rfl) rfl ?_
            refine sn rfl (fun e_ => absurd ((decide_eq_false hk971).symm.trans e_) (by decide)) rfl ?_
            refine sn rfl (fun e_ => absurd ((decide_eq_false hk971).symm.trans e_) (by decide)) rfl ?_
            refine sg rfl (Bool.eq_false_iff.2 hk0) (o_pickF (decide_eq_false hk971) rfl rfl) rfl ?_
            refine sv (o_pickF (Bool.eq_false_iff.2 hk0) rfl rfl) rfl ?_
            refine sv (o_mv rfl) rfl ?_
            refine sg rfl (rfl) (o_mv rfl) rfl ?_
            refine sg rfl (rfl) (o_mv rfl) rfl ?_
            refine sg rfl (rfl) (o_sidx Tryd.underlying9 rfl rfl (by omega) (by rw [Int.toNat_natCast]; exact hgj)) rfl ?_
            refine sg rfl (rfl) (o_eql rfl rfl) rfl ?_
            refine sg rfl (rfl) (o_mv rfl) rfl ?_
            refine sn rfl (fun e_ => absurd ((decide_eq_false (show ¬ ((g.toNat : Int) = 65) by omega)).symm.trans e_) (by decide)) rfl ?_
            refine sn rfl (fun e_ => absurd ((decide_eq_false (show ¬ ((g.toNat : Int) = 65) by omega)).symm.trans e_) (by decide)) rfl ?_
            refine sg rfl (rfl) (o_pickF (decide_eq_false (show ¬ ((g.toNat : Int) = 65) by omega)) rfl rfl) rfl ?_
            refine sg rfl (rfl) (o_mv rfl) rfl ?_
            refine sn rfl (fun e_ => absurd ((rfl).symm.trans e_) (by decide)) rfl ?_
            refine sn rfl (fun e_ => absurd ((rfl).symm.trans e_) (by decide)) rfl ?_
            refine sg rfl (rfl) (o_pickF (rfl) rfl rfl) rfl ?_
            refine sv (o_pickF (rfl) rfl rfl) rfl ?_
            refine sv (o_mv rfl) rfl ?_
            refine sg rfl (rfl) (o_mv rfl) rfl ?_
            refine sg rfl (rfl) (o_mv rfl) rfl ?_
            refine sg rfl (rfl) (o_sidx Tryd.underlying9 rfl rfl (by omega) (by rw [Int.toNat_natCast]; exact hgj)) rfl ?_
            refine sg rfl (rfl) (o_eql rfl rfl) rfl ?_
            refine sg rfl (rfl) (o_mv rfl) rfl ?_
            refine sn rfl (fun e_ => absurd ((decide_eq_false (show ¬ ((g.toNat : Int) = 48) by omega)).symm.trans e_) (by decide)) rfl ?_
            refine sn rfl (fun e_ => absurd ((decide_eq_false (show ¬ ((g.toNat : Int) = 48) by omega)).symm.trans e_) (by decide)) rfl ?_
            refine sg rfl (rfl) (o_pickF (decide_eq_false (show ¬ ((g.toNat : Int) = 48) by omega)) rfl rfl) rfl ?_
            refine sg rfl (rfl) (o_mv rfl) rfl ?_
            refine sn rfl (fun e_ => absurd ((rfl).symm.trans e_) (by decide)) rfl ?_
            refine sn rfl (fun e_ => absurd ((rfl).symm.trans e_) (by decide)) rfl ?_
            refine sg rfl (rfl) (o_pickF (rfl) rfl rfl) rfl ?_
            refine sv (o_pickF (rfl) rfl rfl) rfl ?_
            refine sv ((o_as rfl).to (v' := .bool (x || okK1 c.toNat g)) (congrArg Value.bool (by simp only [okK1, Bool.eq_false_iff.2 hk0, decide_eq_true hk97, decide_eq_false hk971, decide_eq_false (show ¬ ((g.toNat : Int) = 65) by omega), decide_eq_false (show ¬ ((g.toNat : Int) = 48) by omega), Bool.true_and, Bool.and_true, Bool.false_and, Bool.and_false, Bool.true_or, Bool.or_true, Bool.false_or, Bool.or_false, Bool.not_true, Bool.not_false]))) rfl ?_
            refine l_nil ?_
            refine e_in (by simp) ?_
            refine e_K (hK13 _ _ _ _ ?_)
            refine c_region ?_
            refine sv (o_mv rfl) rfl ?_
            refine sv (o_addN rfl rfl (by omega)) rfl ?_
            refine sv (o_as rfl) rfl ?_
            refine l_nil ?_
            exact e_round (σ := Nat × Bool) (s := ⟨j, x⟩) (⟨j + 1, (x || okK1 c.toNat g)⟩) ⟨rfl, rfl, rfl, rfl, rfl, rfl, rfl, trivial⟩ ⟨by omega, by rw [any_succ' _ hgj, ← hx], E⟩ (by dsimp only; omega)
        · skip
          by_cases hk65 : (g.toNat : Int) = 65
          · skip
            by_cases hk651 : (c.toNat : Int) ≥ 65
            · skip
              by_cases hk652 : (c.toNat : Int) ≤ 90
              · skip
                refine c_region ?_
                refine sv (o_mv rfl) rfl ?_
                refine sv (o_mv rfl) rfl ?_
                refine sg rfl (Bool.eq_false_iff.2 hk0) (o_mv rfl) rfl ?_
                refine sg rfl (Bool.eq_false_iff.2 hk0) (o_mv rfl) rfl ?_
                refine sg rfl (Bool.eq_false_iff.2 hk0) (o_sidx Tryd.underlying9 rfl rfl (by omega) (by rw [Int.toNat_natCast]; exact hgj)) rfl ?_
                refine sg rfl (Bool.eq_false_iff.2 hk0) (o_eql rfl rfl) rfl ?_
                refine sg rfl (Bool.eq_false_iff.2 hk0) (o_mv rfl) rfl ?_
                refine sn rfl (fun e_ => absurd ((decide_eq_false hk97).symm.trans e_) (by decide)) rfl ?_
                refine sn rfl (fun e_ => absurd ((decide_eq_false hk97).symm.trans e_) (by decide)) rfl ?_
                refine sg rfl (Bool.eq_false_iff.2 hk0) (o_pickF (decide_eq_false hk97) rfl rfl) rfl ?_
                refine sg rfl (Bool.eq_false_iff.2 hk0) (o_mv rfl) rfl ?_
                refine sn rfl (fun e_ => absurd ((rfl).symm.trans e_) (by decide)) rfl ?_
                refine sn rfl (fun e_ => absurd ((rfl).symm.trans e_) (by decide)) rfl ?_
                refine sg rfl (Bool.eq_false_iff.2 hk0) (o_pickF (rfl) rfl rfl) rfl ?_
                refine sv (o_pickF (Bool.eq_false_iff.2 hk0) rfl rfl) rfl ?_
                refine sv (o_mv rfl) rfl ?_
                refine sg rfl (rfl) (o_mv rfl) rfl ?_
                refine sg rfl (rfl) (o_mv rfl) rfl ?_
                refine sg rfl (rfl) (o_sidx Tryd.underlying9 rfl rfl (by omega) (by rw [Int.toNat_natCast]; exact hgj)) rfl ?_
                refine sg rfl (rfl) (o_eql rfl rfl) rfl ?_
                refine sg rfl (rfl) (o_mv rfl) rfl ?_
                refine sg rfl (decide_eq_true hk65) (o_mv rfl) rfl ?_
                refine sg rfl (decide_eq_true hk65) (o_geq rfl rfl) rfl ?_
                refine sg rfl (rfl) (o_pickT (decide_eq_true hk65) rfl rfl) rfl ?_
                refine sg rfl (rfl) (o_mv rfl) rfl ?_
                refine sg rfl (decide_eq_true hk651) (o_mv rfl) rfl ?_
                refine sg rfl (decide_eq_true hk651) (o_leq rfl rfl) rfl ?_
                refine sg rfl (rfl) (o_pickT (decide_eq_true hk651) rfl rfl) rfl ?_
                refine sv (o_pickF (rfl) rfl rfl) rfl ?_
                refine sv (o_mv rfl) rfl ?_
                refine sn rfl (fun e_ => absurd ((decide_eq_true hk652).symm.trans e_) (by decide)) rfl ?_
                refine sn rfl (fun e_ => absurd ((decide_eq_true hk652).symm.trans e_) (by decide)) rfl ?_
                refine sn rfl (fun e_ => absurd ((decide_eq_true hk652).symm.trans e_) (by decide)) rfl ?_
                refine sn rfl (fun e_ => absurd ((decide_eq_true hk652).symm.trans e_) (by decide)) rfl ?_
                refine sn rfl (fun e_ => absurd ((decide_eq_true hk652).symm.trans e_) (by decide)) rfl ?_
                refine snu rfl rfl rfl ?_
                refine snu rfl rfl rfl ?_
                refine sn rfl (fun e_ => absurd ((decide_eq_true hk652).symm.trans e_) (by decide)) rfl ?_
                refine sn rfl (fun e_ => absurd ((decide_eq_true hk652).symm.trans e_) (by decide)) rfl ?_
                refine snu rfl rfl rfl ?_
                refine snu rfl rfl rfl ?_
                refine sn rfl (fun e_ => absurd ((decide_eq_true hk652).symm.trans e_) (by decide)) rfl ?_
                refine sv (o_pickT (decide_eq_true hk652) rfl rfl) rfl ?_
                refine sv ((o_as rfl).to (v' := .bool (x || okK1 c.toNat g)) (congrArg Value.bool (by simp only [okK1, Bool.eq_false_iff.2 hk0, decide_eq_false hk97, decide_eq_true hk65, decide_eq_true hk651, decide_eq_true hk652, Bool.true_and, Bool.and_true, Bool.false_and, Bool.and_false, Bool.true_or, Bool.or_true, Bool.false_or, Bool.or_false, Bool.not_true, Bool.not_false]))) rfl ?_
                refine l_nil ?_
                refine e_in (by simp) ?_
                refine e_K (hK13 _ _ _ _ ?_)
                refine c_region ?_
                refine sv (o_mv rfl) rfl ?_
                refine sv (o_addN rfl rfl (by omega)) rfl ?_
                refine sv (o_as rfl) rfl ?_
                refine l_nil ?_
                exact e_round (σ := Nat × Bool) (s := ⟨j, x⟩) (⟨j + 1, (x || okK1 c.toNat g)⟩) ⟨rfl, rfl, rfl, rfl, rfl, rfl, rfl, trivial⟩ ⟨by omega, by rw [any_succ' _ hgj, ← hx], E⟩ (by dsimp only; omega)
              · skip
                refine c_region ?_
                refine sv (o_mv rfl) rfl ?_
                refine sv (o_mv rfl) rfl ?_
                refine sg rfl (Bool.eq_false_iff.2 hk0) (o_mv rfl) rfl ?_
                refine sg rfl (Bool.eq_false_iff.2 hk0) (o_mv rfl) rfl ?_
                refine sg rfl (Bool.eq_false_iff.2 hk0) (o_sidx Tryd.underlying9 rfl rfl (by omega) (by rw [Int.toNat_natCast]; exact hgj)) rfl ?_
                refine sg rfl (Bool.eq_false_iff.2 hk0) (o_eql rfl rfl) rfl ?_
                refine sg rfl (Bool.eq_false_iff.2 hk0) (o_mv rfl) rfl ?_
                refine sn rfl (fun e_ => absurd ((decide_eq_false hk97).symm.trans e_) (by decide)) rfl ?_
                refine sn rfl (fun e_ => absurd ((decide_eq_false hk97).symm.trans e_) (by decide)) rfl ?_
                refine sg rfl (Bool.eq_false_iff.2 hk0) (o_pickF (decide_eq_false hk97) rfl rfl) rfl ?_
                refine sg rfl (Bool.eq_false_iff.2 hk0) (o_mv rfl) rfl ?_
                refine sn rfl (fun e_ => absurd ((rfl).symm.trans e_) (by decide)) rfl ?_
                refine sn rfl (fun e_ => absurd ((rfl).symm.trans e_) (by decide)) rfl ?_
                refine sg rfl (Bool.eq_false_iff.2 hk0) (o_pickF (rfl) rfl rfl) rfl ?_
                refine sv (o_pickF (Bool.eq_false_iff.2 hk0) rfl rfl) rfl ?_
                refine sv (o_mv rfl) rfl ?_
                refine sg rfl (rfl) (o_mv rfl) rfl ?_
                refine sg rfl (rfl) (o_mv rfl) rfl ?_
                refine sg rfl (rfl) (o_sidx Tryd.underlying9 rfl rfl (by omega) (by rw [Int.toNat_natCast]; exact hgj)) rfl ?_
                refine sg rfl (rfl) (o_eql rfl rfl) rfl ?_
                refine sg rfl (rfl) (o_mv rfl) rfl ?_
                refine sg rfl (decide_eq_true hk65) (o_mv rfl) rfl ?_
                refine sg rfl (decide_eq_true hk65) (o_geq rfl rfl) rfl ?_
                refine sg rfl (rfl) (o_pickT (decide_eq_true hk65) rfl rfl) rfl ?_
                refine sg rfl (rfl) (o_mv rfl) rfl ?_
                refine sg rfl (decide_eq_true hk651) (o_mv rfl) rfl ?_
                refine sg rfl (decide_eq_true hk651) (o_leq rfl rfl) rfl ?_
                refine sg rfl (rfl) (o_pickT (decide_eq_true hk651) rfl rfl) rfl ?_
                refine sv (o_pickF (rfl) rfl rfl) rfl ?_
                refine sv (o_mv rfl) rfl ?_
                refine sg rfl (decide_eq_false hk652) (o_mv rfl) rfl ?_
                refine sg rfl (decide_eq_false hk652) (o_mv rfl) rfl ?_
                refine sg rfl (decide_eq_false hk652) (o_sidx Tryd.underlying9 rfl rfl (by omega) (by rw [Int.toNat_natCast]; exact hgj)) rfl ?_
                refine sg rfl (decide_eq_false hk652) (o_eql rfl rfl) rfl ?_
                refine sg rfl (decide_eq_false hk652) (o_mv rfl) rfl ?_
                refine sn rfl (fun e_ => absurd ((decide_eq_false (show ¬ ((g.toNat : Int) = 48) by omega)).symm.trans e_) (by decide)) rfl ?_
                refine sn rfl (fun e_ => absurd ((decide_eq_false (show ¬ ((g.toNat : Int) = 48) by omega)).symm.trans e_) (by decide)) rfl ?_
                refine sg rfl (decide_eq_false hk652) (o_pickF (decide_eq_false (show ¬ ((g.toNat : Int) = 48) by omega)) rfl rfl) rfl ?_
                refine sg rfl (decide_eq_false hk652) (o_mv rfl) rfl ?_
                refine sn rfl (fun e_ => absurd ((rfl).symm.trans e_) (by decide)) rfl ?_
                refine sn rfl (fun e_ => absurd ((rfl).symm.trans e_) (by decide)) rfl ?_
                refine sg rfl (decide_eq_false hk652) (o_pickF (rfl) rfl rfl) rfl ?_
                refine sv (o_pickF (decide_eq_false hk652) rfl rfl) rfl ?_
                refine sv ((o_as rfl).to (v' := .bool (x || okK1 c.toNat g)) (congrArg Value.bool (by simp only [okK1, Bool.eq_false_iff.2 hk0, decide_eq_false hk97, decide_eq_true hk65, decide_eq_true hk651, decide_eq_false hk652, decide_eq_false (show ¬ ((g.toNat : Int) = 48) by omega), Bool.true_and, Bool.and_true, Bool.false_and, Bool.and_false, Bool.true_or, Bool.or_true, Bool.false_or, Bool.or_false, Bool.not_true, Bool.not_false]))) rfl ?_
                refine l_nil ?_
                refine e_in (by simp) ?_
                refine e_K (hK13 _ _ _ _ ?_)
                refine c_region ?_
                refine sv (o_mv rfl) rfl ?_
                refine sv (o_addN rfl rfl (by omega)) rfl ?_
                refine sv (o_as rfl) rfl ?_
                refine l_nil ?_
                exact e_round (σ := Nat × Bool) (s := ⟨j, x⟩) (⟨j + 1, (x || okK1 c.toNat g)⟩) ⟨rfl, rfl, rfl, rfl, rfl, rfl, rfl, trivial⟩ ⟨by omega, by rw [any_succ' _ hgj, ← hx], E⟩ (by dsimp only; omega)
            · skip
              refine c_region ?_
              refine sv (o_mv rfl) rfl ?_
              refine sv (o_mv rfl) rfl ?_
              refine sg rfl (Bool.eq_false_iff.2 hk0) (o_mv rfl) rfl ?_
              refine sg rfl (Bool.eq_false_iff.2 hk0) (o_mv rfl) rfl ?_
              refine sg rfl (Bool.eq_false_iff.2 hk0) (o_sidx Tryd.underlying9 rfl rfl (by omega) (by rw [Int.toNat_natCast]; exact hgj)) rfl ?_
              refine sg rfl (Bool.eq_false_iff.2 hk0) (o_eql rfl rfl) rfl ?_
              refine sg rfl (Bool.eq_false_iff.2 hk0) (o_mv rfl) rfl ?_
              refine sn rfl (fun e_ => absurd ((decide_eq_false hk97).symm.trans e_) (by decide)) rfl ?_
              refine sn rfl (fun e_ => absurd ((decide_eq_false hk97).symm.trans e_) (by decide)) rfl ?_
              refine sg rfl (Bool.eq_false_iff.2 hk0) (o_pickF (decide_eq_false hk97) rfl rfl) rfl ?_
              refine sg rfl (Bool.eq_false_iff.2 hk0) (o_mv rfl) rfl ?_
              refine sn rfl (fun e_ => absurd ((rfl).symm.trans e_) (by decide)) rfl ?_
              refine sn rfl (fun e_ => absurd ((rfl).symm.trans e_) (by decide)) rfl ?_
              refine sg rfl (Bool.eq_false_iff.2 hk0) (o_pickF (rfl) rfl rfl) rfl ?_
              refine sv (o_pickF (Bool.eq_false_iff.2 hk0) rfl rfl) rfl ?_
              refine sv (o_mv rfl) rfl ?_
              refine sg rfl (rfl) (o_mv rfl) rfl ?_
              refine sg rfl (rfl) (o_mv rfl) rfl ?_
              refine sg rfl (rfl) (o_sidx Tryd.underlying9 rfl rfl (by omega) (by rw [Int.toNat_natCast]; exact hgj)) rfl ?_
              refine sg rfl (rfl) (o_eql rfl rfl) rfl ?_
              refine sg rfl (rfl) (o_mv rfl) rfl ?_
              refine sg rfl (decide_eq_true hk65) (o_mv rfl) rfl ?_
              refine sg rfl (decide_eq_true hk65) (o_geq rfl rfl) rfl ?_
              refine sg rfl (rfl) (o_pickT (decide_eq_true hk65) rfl rfl) rfl ?_
              refine sg rfl (rfl) (o_mv rfl) rfl ?_
              refine sn rfl (fun e_ => absurd ((decide_eq_false hk651).symm.trans e_) (by decide)) rfl ?_
              refine sn rfl (fun e_ => absurd ((decide_eq_false hk651).symm.trans e_) (by decide)) rfl ?_
              refine sg rfl (rfl) (o_pickF (decide_eq_false hk651) rfl rfl) rfl ?_
              refine sv (o_pickF (rfl) rfl rfl) rfl ?_
              refine sv (o_mv rfl) rfl ?_
              refine sg rfl (rfl) (o_mv rfl) rfl ?_
              refine sg rfl (rfl) (o_mv rfl) rfl ?_
              refine sg rfl (rfl) (o_sidx Tryd.underlying9 rfl rfl (by omega) (by rw [Int.toNat_natCast]; exact hgj)) rfl ?_
              refine sg rfl (rfl) (o_eql rfl rfl) rfl ?_
              refine sg rfl (rfl) (o_mv rfl) rfl ?_
              refine sn rfl (fun e_ => absurd ((decide_eq_false (show ¬ ((g.toNat : Int) = 48) by omega)).symm.trans e_) (by decide)) rfl ?_
              refine sn rfl (fun e_ => absurd ((decide_eq_false (show ¬ ((g.toNat : Int) = 48) by omega)).symm.trans e_) (by decide)) rfl ?_
              refine sg rfl (rfl) (o_pickF (decide_eq_false (show ¬ ((g.toNat : Int) = 48) by omega)) rfl rfl) rfl ?_
              refine sg rfl (rfl) (o_mv rfl) rfl ?_
              refine sn rfl (fun e_ => absurd ((rfl).symm.trans e_) (by decide)) rfl ?_
              refine sn rfl (fun e_ => absurd ((rfl).symm.trans e_) (by decide)) rfl ?_
              refine sg rfl (rfl) (o_pickF (rfl) rfl rfl) rfl ?_
              refine sv (o_pickF (rfl) rfl rfl) rfl ?_
              refine sv ((o_as rfl).to (v' := .bool (x || okK1 c.toNat g)) (congrArg Value.bool (by simp only [okK1, Bool.eq_false_iff.2 hk0, decide_eq_false hk97, decide_eq_true hk65, decide_eq_false hk651, decide_eq_false (show ¬ ((g.toNat : Int) = 48) by omega), Bool.true_and, Bool.and_true, Bool.false_and, Bool.and_false, Bool.true_or, Bool.or_true, Bool.false_or, Bool.or_false, Bool.not_true, Bool.not_false]))) rfl ?_
              refine l_nil ?_
              refine e_in (by simp) ?_
              refine e_K (hK13 _ _ _ _ ?_)
              refine c_region ?_
              refine sv (o_mv rfl) rfl ?_
              refine sv (o_addN rfl rfl (by omega)) rfl ?_
              refine sv (o_as rfl) rfl ?_
              refine l_nil ?_
              exact e_round (σ := Nat × Bool) (s := ⟨j, x⟩) (⟨j + 1, (x || okK1 c.toNat g)⟩) ⟨rfl, rfl, rfl, rfl, rfl, rfl, rfl, trivial⟩ ⟨by omega, by rw [any_succ' _ hgj, ← hx], E⟩ (by dsimp only; omega)
          · skip
            by_cases hk48 : (g.toNat : Int) = 48
            · skip
              by_cases hk481 : (c.toNat : Int) ≥ 48
              · skip
                by_cases hk482 : (c.toNat : Int) ≤ 57
                · skip
                  refine c_region ?_
                  refine sv (o_mv rfl) rfl ?_
                  refine sv (o_mv rfl) rfl ?_
                  refine sg rfl (Bool.eq_false_iff.2 hk0) (o_mv rfl) rfl ?_
                  refine sg rfl (Bool.eq_false_iff.2 hk0) (o_mv rfl) rfl ?_
                  refine sg rfl (Bool.eq_false_iff.2 hk0) (o_sidx Tryd.underlying9 rfl rfl (by omega) (by rw [Int.toNat_natCast]; exact hgj)) rfl ?_
                  refine sg rfl (Bool.eq_false_iff.2 hk0) (o_eql rfl rfl) rfl ?_
                  refine sg rfl (Bool.eq_false_iff.2 hk0) (o_mv rfl) rfl ?_
                  refine sn rfl (fun e_ => absurd ((decide_eq_false hk97).symm.trans e_) (by decide)) rfl ?_
                  refine sn rfl (fun e_ => absurd ((decide_eq_false hk97).symm.trans e_) (by decide)) rfl ?_
                  refine sg rfl (Bool.eq_false_iff.2 hk0) (o_pickF (decide_eq_false hk97) rfl rfl) rfl ?_
                  refine sg rfl (Bool.eq_false_iff.2 hk0) (o_mv rfl) rfl ?_
                  refine sn rfl (fun e_ => absurd ((rfl).symm.trans e_) (by decide)) rfl ?_
                  refine sn rfl (fun e_ => absurd ((rfl).symm.trans e_) (by decide)) rfl ?_
                  refine sg rfl (Bool.eq_false_iff.2 hk0) (o_pickF (rfl) rfl rfl) rfl ?_
                  refine sv (o_pickF (Bool.eq_false_iff.2 hk0) rfl rfl) rfl ?_
                  refine sv (o_mv rfl) rfl ?_
                  refine sg rfl (rfl) (o_mv rfl) rfl ?_
                  refine sg rfl (rfl) (o_mv rfl) rfl ?_
                  refine sg rfl (rfl) (o_sidx Tryd.underlying9 rfl rfl (by omega) (by rw [Int.toNat_natCast]; exact hgj)) rfl ?_
                  refine sg rfl (rfl) (o_eql rfl rfl) rfl ?_
                  refine sg rfl (rfl) (o_mv rfl) rfl ?_
                  refine sn rfl (fun e_ => absurd ((decide_eq_false hk65).symm.trans e_) (by decide)) rfl ?_
                  refine sn rfl (fun e_ => absurd ((decide_eq_false hk65).symm.trans e_) (by decide)) rfl ?_
                  refine sg rfl (rfl) (o_pickF (decide_eq_false hk65) rfl rfl) rfl ?_
                  refine sg rfl (rfl) (o_mv rfl) rfl ?_
                  refine sn rfl (fun e_ => absurd ((rfl).symm.trans e_) (by decide)) rfl ?_
                  refine sn rfl (fun e_ => absurd ((rfl).symm.trans e_) (by decide)) rfl ?_
                  refine sg rfl (rfl) (o_pickF (rfl) rfl rfl) rfl ?_
                  refine sv (o_pickF (rfl) rfl rfl) rfl ?_
                  refine sv (o_mv rfl) rfl ?_
                  refine sg rfl (rfl) (o_mv rfl) rfl ?_
                  refine sg rfl (rfl) (o_mv rfl) rfl ?_
                  refine sg rfl (rfl) (o_sidx Tryd.underlying9 rfl rfl (by omega) (by rw [Int.toNat_natCast]; exact hgj)) rfl ?_
                  refine sg rfl (rfl) (o_eql rfl rfl) rfl ?_
                  refine sg rfl (rfl) (o_mv rfl) rfl ?_
                  refine sg rfl (decide_eq_true hk48) (o_mv rfl) rfl ?_
                  refine sg rfl (decide_eq_true hk48) (o_geq rfl rfl) rfl ?_
                  refine sg rfl (rfl) (o_pickT (decide_eq_true hk48) rfl rfl) rfl ?_
                  refine sg rfl (rfl) (o_mv rfl) rfl ?_
                  refine sg rfl (decide_eq_true hk481) (o_mv rfl) rfl ?_
                  refine sg rfl (decide_eq_true hk481) (o_leq rfl rfl) rfl ?_
                  refine sg rfl (rfl) (o_pickT (decide_eq_true hk481) rfl rfl) rfl ?_
                  refine sv (o_pickF (rfl) rfl rfl) rfl ?_
                  refine sv ((o_as rfl).to (v' := .bool (x || okK1 c.toNat g)) (congrArg Value.bool (by simp only [okK1, Bool.eq_false_iff.2 hk0, decide_eq_false hk97, decide_eq_false hk65, decide_eq_true hk48, decide_eq_true hk481, decide_eq_true hk482, Bool.true_and, Bool.and_true, Bool.false_and, Bool.and_false, Bool.true_or, Bool.or_true, Bool.false_or, Bool.or_false, Bool.not_true, Bool.not_false]))) rfl ?_
                  refine l_nil ?_
                  refine e_in (by simp) ?_
                  refine e_K (hK13 _ _ _ _ ?_)
                  refine c_region ?_
                  refine sv (o_mv rfl) rfl ?_
                  refine sv (o_addN rfl rfl (by omega)) rfl ?_
                  refine sv (o_as rfl) rfl ?_
                  refine l_nil ?_
                  exact e_round (σ := Nat × Bool) (s := ⟨j, x⟩) (⟨j + 1, (x || okK1 c.toNat g)⟩) ⟨rfl, rfl, rfl, rfl, rfl, rfl, rfl, trivial⟩ ⟨by omega, by rw [any_succ' _ hgj, ← hx], E⟩ (by dsimp only; omega)
                · skip
                  refine c_region ?_
                  refine sv (o_mv rfl) rfl ?_
                  refine sv (o_mv rfl) rfl ?_
                  refine sg rfl (Bool.eq_false_iff.2 hk0) (o_mv rfl) rfl ?_
                  refine sg rfl (Bool.eq_false_iff.2 hk0) (o_mv rfl) rfl ?_
                  refine sg rfl (Bool.eq_false_iff.2 hk0) (o_sidx Tryd.underlying9 rfl rfl (by omega) (by rw [Int.toNat_natCast]; exact hgj)) rfl ?_
                  refine sg rfl (Bool.eq_false_iff.2 hk0) (o_eql rfl rfl) rfl ?_
                  refine sg rfl (Bool.eq_false_iff.2 hk0) (o_mv rfl) rfl ?_
                  refine sn rfl (fun e_ => absurd ((decide_eq_false hk97).symm.trans e_) (by decide)) rfl ?_
                  refine sn rfl (fun e_ => absurd ((decide_eq_false hk97).symm.trans e_) (by decide)) rfl ?_
                  refine sg rfl (Bool.eq_false_iff.2 hk0) (o_pickF (decide_eq_false hk97) rfl rfl) rfl ?_
                  refine sg rfl (Bool.eq_false_iff.2 hk0) (o_mv rfl) rfl ?_
                  refine sn rfl (fun e_ => absurd ((rfl).symm.trans e_) (by decide)) rfl ?_
                  refine sn rfl (fun e_ => absurd ((rfl).symm.trans e_) (by decide)) rfl ?_
                  refine sg rfl (Bool.eq_false_iff.2 hk0) (o_pickF (rfl) rfl rfl) rfl ?_
                  refine sv (o_pickF (Bool.eq_false_iff.2 hk0) rfl rfl) rfl ?_
                  refine sv (o_mv rfl) rfl ?_
                  refine sg rfl (rfl) (o_mv rfl) rfl ?_
                  refine sg rfl (rfl) (o_mv rfl) rfl ?_
                  refine sg rfl (rfl) (o_sidx Tryd.underlying9 rfl rfl (by omega) (by rw [Int.toNat_natCast]; exact hgj)) rfl ?_
                  refine sg rfl (rfl) (o_eql rfl rfl) rfl ?_
                  refine sg rfl (rfl) (o_mv rfl) rfl ?_
                  refine sn rfl (fun e_ => absurd ((decide_eq_false hk65).symm.trans e_) (by decide)) rfl ?_
                  refine sn rfl (fun e_ => absurd ((decide_eq_false hk65).symm.trans e_) (by decide)) rfl ?_
                  refine sg rfl (rfl) (o_pickF (decide_eq_false hk65) rfl rfl) rfl ?_
                  refine sg rfl (rfl) (o_mv rfl) rfl ?_
                  refine sn rfl (fun e_ => absurd ((rfl).symm.trans e_) (by decide)) rfl ?_
                  refine sn rfl (fun e_ => absurd ((rfl).symm.trans e_) (by decide)) rfl ?_
                  refine sg rfl (rfl) (o_pickF (rfl) rfl rfl) rfl ?_
                  refine sv (o_pickF (rfl) rfl rfl) rfl ?_
                  refine sv (o_mv rfl) rfl ?_
                  refine sg rfl (rfl) (o_mv rfl) rfl ?_
                  refine sg rfl (rfl) (o_mv rfl) rfl ?_
                  refine sg rfl (rfl) (o_sidx Tryd.underlying9 rfl rfl (by omega) (by rw [Int.toNat_natCast]; exact hgj)) rfl ?_
                  refine sg rfl (rfl) (o_eql rfl rfl) rfl ?_
                  refine sg rfl (rfl) (o_mv rfl) rfl ?_
                  refine sg rfl (decide_eq_true hk48) (o_mv rfl) rfl ?_
                  refine sg rfl (decide_eq_true hk48) (o_geq rfl rfl) rfl ?_
                  refine sg rfl (rfl) (o_pickT (decide_eq_true hk48) rfl rfl) rfl ?_
                  refine sg rfl (rfl) (o_mv rfl) rfl ?_
                  refine sg rfl (decide_eq_true hk481) (o_mv rfl) rfl ?_
                  refine sg rfl (decide_eq_true hk481) (o_leq rfl rfl) rfl ?_
                  refine sg rfl (rfl) (o_pickT (decide_eq_true hk481) rfl rfl) rfl ?_
                  refine sv (o_pickF (rfl) rfl rfl) rfl ?_
                  refine sv ((o_as rfl).to (v' := .bool (x || okK1 c.toNat g)) (congrArg Value.bool (by simp only [okK1, Bool.eq_false_iff.2 hk0, decide_eq_false hk97, decide_eq_false hk65, decide_eq_true hk48, decide_eq_true hk481, decide_eq_false hk482, Bool.true_and, Bool.and_true, Bool.false_and, Bool.and_false, Bool.true_or, Bool.or_true, Bool.false_or, Bool.or_false, Bool.not_true, Bool.not_false]))) rfl ?_
                  refine l_nil ?_
                  refine e_in (by simp) ?_
                  refine e_K (hK13 _ _ _ _ ?_)
                  refine c_region ?_
                  refine sv (o_mv rfl) rfl ?_
                  refine sv (o_addN rfl rfl (by omega)) rfl ?_
                  refine sv (o_as rfl) rfl ?_
                  refine l_nil ?_
                  exact e_round (σ := Nat × Bool) (s := ⟨j, x⟩) (⟨j + 1, (x || okK1 c.toNat g)⟩) ⟨rfl, rfl, rfl, rfl, rfl, rfl, rfl, trivial⟩ ⟨by omega, by rw [any_succ' _ hgj, ← hx], E⟩ (by dsimp only; omega)
              · skip
                refine c_region ?_
                refine sv (o_mv rfl) rfl ?_
                refine sv (o_mv rfl) rfl ?_
                refine sg rfl (Bool.eq_false_iff.2 hk0) (o_mv rfl) rfl ?_
                refine sg rfl (Bool.eq_false_iff.2 hk0) (o_mv rfl) rfl ?_
                refine sg rfl (Bool.eq_false_iff.2 hk0) (o_sidx Tryd.underlying9 rfl rfl (by omega) (by rw [Int.toNat_natCast]; exact hgj)) rfl ?_
                refine sg rfl (Bool.eq_false_iff.2 hk0) (o_eql rfl rfl) rfl ?_
                refine sg rfl (Bool.eq_false_iff.2 hk0) (o_mv rfl) rfl ?_
                refine sn rfl (fun e_ => absurd ((decide_eq_false hk97).symm.trans e_) (by decide)) rfl ?_
                refine sn rfl (fun e_ => absurd ((decide_eq_false hk97).symm.trans e_) (by decide)) rfl ?_
                refine sg rfl (Bool.eq_false_iff.2 hk0) (o_pickF (decide_eq_false hk97) rfl rfl) rfl ?_
                refine sg rfl (Bool.eq_false_iff.2 hk0) (o_mv rfl) rfl ?_
                refine sn rfl (fun e_ => absurd ((rfl).symm.trans e_) (by decide)) rfl ?_
                refine sn rfl (fun e_ => absurd ((rfl).symm.trans e_) (by decide)) rfl ?_
                refine sg rfl (Bool.eq_false_iff.2 hk0) (o_pickF (rfl) rfl rfl) rfl ?_
                refine sv (o_pickF (Bool.eq_false_iff.2 hk0) rfl rfl) rfl ?_
                refine sv (o_mv rfl) rfl ?_
                refine sg rfl (rfl) (o_mv rfl) rfl ?_
                refine sg rfl (rfl) (o_mv rfl) rfl ?_
                refine sg rfl (rfl) (o_sidx Tryd.underlying9 rfl rfl (by omega) (by rw [Int.toNat_natCast]; exact hgj)) rfl ?_
                refine sg rfl (rfl) (o_eql rfl rfl) rfl ?_
                refine sg rfl (rfl) (o_mv rfl) rfl ?_
                refine sn rfl (fun e_ => absurd ((decide_eq_false hk65).symm.trans e_) (by decide)) rfl ?_
                refine sn rfl (fun e_ => absurd ((decide_eq_false hk65).symm.trans e_) (by decide)) rfl ?_
                refine sg rfl (rfl) (o_pickF (decide_eq_false hk65) rfl rfl) rfl ?_
                refine sg rfl (rfl) (o_mv rfl) rfl ?_
                refine sn rfl (fun e_ => absurd ((rfl).symm.trans e_) (by decide)) rfl ?_
                refine sn rfl (fun e_ => absurd ((rfl).symm.trans e_) (by decide)) rfl ?_
                refine sg rfl (rfl) (o_pickF (rfl) rfl rfl) rfl ?_
                refine sv (o_pickF (rfl) rfl rfl) rfl ?_
                refine sv (o_mv rfl) rfl ?_
                refine sg rfl (rfl) (o_mv rfl) rfl ?_
                refine sg rfl (rfl) (o_mv rfl) rfl ?_
                refine sg rfl (rfl) (o_sidx Tryd.underlying9 rfl rfl (by omega) (by rw [Int.toNat_natCast]; exact hgj)) rfl ?_
                refine sg rfl (rfl) (o_eql rfl rfl) rfl ?_
                refine sg rfl (rfl) (o_mv rfl) rfl ?_
                refine sg rfl (decide_eq_true hk48) (o_mv rfl) rfl ?_
                refine sg rfl (decide_eq_true hk48) (o_geq rfl rfl) rfl ?_
                refine sg rfl (rfl) (o_pickT (decide_eq_true hk48) rfl rfl) rfl ?_
                refine sg rfl (rfl) (o_mv rfl) rfl ?_
                refine sn rfl (fun e_ => absurd ((decide_eq_false hk481).symm.trans e_) (by decide)) rfl ?_
                refine sn rfl (fun e_ => absurd ((decide_eq_false hk481).symm.trans e_) (by decide)) rfl ?_
                refine sg rfl (rfl) (o_pickF (decide_eq_false hk481) rfl rfl) rfl ?_
                refine sv (o_pickF (rfl) rfl rfl) rfl ?_
                refine sv ((o_as rfl).to (v' := .bool (x || okK1 c.toNat g)) (congrArg Value.bool (by simp only [okK1, Bool.eq_false_iff.2 hk0, decide_eq_false hk97, decide_eq_false hk65, decide_eq_true hk48, decide_eq_false hk481, Bool.true_and, Bool.and_true, Bool.false_and, Bool.and_false, Bool.true_or, Bool.or_true, Bool.false_or, Bool.or_false, Bool.not_true, Bool.not_false]))) rfl ?_
                refine l_nil ?_
                refine e_in (by simp) ?_
                refine e_K (hK13 _ _ _ _ ?_)
                refine c_region ?_
                refine sv (o_mv rfl) rfl ?_
                refine sv (o_addN rfl rfl (by omega)) rfl ?_
                refine sv (o_as rfl) rfl ?_
                refine l_nil ?_
                exact e_round (σ := Nat × Bool) (s := ⟨j, x⟩) (⟨j + 1, (x || okK1 c.toNat g)⟩) ⟨rfl, rfl, rfl, rfl, rfl, rfl, rfl, trivial⟩ ⟨by omega, by rw [any_succ' _ hgj, ← hx], E⟩ (by dsimp only; omega)
            · skip
              refine c_region ?_
              refine sv (o_mv rfl) rfl ?_
              refine sv (o_mv rfl) rfl ?_
              refine sg rfl (Bool.eq_false_iff.2 hk0) (o_mv rfl) rfl ?_
              refine sg rfl (Bool.eq_false_iff.2 hk0) (o_mv rfl) rfl ?_
              refine sg rfl (Bool.eq_false_iff.2 hk0) (o_sidx Tryd.underlying9 rfl rfl (by omega) (by rw [Int.toNat_natCast]; exact hgj)) rfl ?_
              refine sg rfl (Bool.eq_false_iff.2 hk0) (o_eql rfl rfl) rfl ?_
              refine sg rfl (Bool.eq_false_iff.2 hk0) (o_mv rfl) rfl ?_
              refine sn rfl (fun e_ => absurd ((decide_eq_false hk97).symm.trans e_) (by decide)) rfl ?_
              refine sn rfl (fun e_ => absurd ((decide_eq_false hk97).symm.trans e_) (by decide)) rfl ?_
              refine sg rfl (Bool.eq_false_iff.2 hk0) (o_pickF (decide_eq_false hk97) rfl rfl) rfl ?_
              refine sg rfl (Bool.eq_false_iff.2 hk0) (o_mv rfl) rfl ?_
              refine sn rfl (fun e_ => absurd ((rfl).symm.trans e_) (by decide)) rfl ?_
              refine sn rfl (fun e_ => absurd ((rfl).symm.trans e_) (by decide)) rfl ?_
              refine sg rfl (Bool.eq_false_iff.2 hk0) (o_pickF (rfl) rfl rfl) rfl ?_
              refine sv (o_pickF (Bool.eq_false_iff.2 hk0) rfl rfl) rfl ?_
              refine sv (o_mv rfl) rfl ?_
              refine sg rfl (rfl) (o_mv rfl) rfl ?_
              refine sg rfl (rfl) (o_mv rfl) rfl ?_
              refine sg rfl (rfl) (o_sidx Tryd.underlying9 rfl rfl (by omega) (by rw [Int.toNat_natCast]; exact hgj)) rfl ?_
              refine sg rfl (rfl) (o_eql rfl rfl) rfl ?_
              refine sg rfl (rfl) (o_mv rfl) rfl ?_
              refine sn rfl (fun e_ => absurd ((decide_eq_false hk65).symm.trans e_) (by decide)) rfl ?_
              refine sn rfl (fun e_ => absurd ((decide_eq_false hk65).symm.trans e_) (by decide)) rfl ?_
              refine sg rfl (rfl) (o_pickF (decide_eq_false hk65) rfl rfl) rfl ?_
              refine sg rfl (rfl) (o_mv rfl) rfl ?_
              refine sn rfl (fun e_ => absurd ((rfl).symm.trans e_) (by decide)) rfl ?_
              refine sn rfl (fun e_ => absurd ((rfl).symm.trans e_) (by decide)) rfl ?_
              refine sg rfl (rfl) (o_pickF (rfl) rfl rfl) rfl ?_
              refine sv (o_pickF (rfl) rfl rfl) rfl ?_
              refine sv (o_mv rfl) rfl ?_
              refine sg rfl (rfl) (o_mv rfl) rfl ?_
              refine sg rfl (rfl) (o_mv rfl) rfl ?_
              refine sg rfl (rfl) (o_sidx Tryd.underlying9 rfl rfl (by omega) (by rw [Int.toNat_natCast]; exact hgj)) rfl ?_
              refine sg rfl (rfl) (o_eql rfl rfl) rfl ?_
              refine sg rfl (rfl) (o_mv rfl) rfl ?_
              refine sn rfl (fun e_ => absurd ((decide_eq_false hk48).symm.trans e_) (by decide)) rfl ?_
              refine sn rfl (fun e_ => absurd ((decide_eq_false hk48).symm.trans e_) (by decide)) rfl ?_
              refine sg rfl (rfl) (o_pickF (decide_eq_false hk48) rfl rfl) rfl ?_
              refine sg rfl (rfl) (o_mv rfl) rfl ?_
              refine sn rfl (fun e_ => absurd ((rfl).symm.trans e_) (by decide)) rfl ?_
              refine sn rfl (fun e_ => absurd ((rfl).symm.trans e_) (by decide)) rfl ?_
              refine sg rfl (rfl) (o_pickF (rfl) rfl rfl) rfl ?_
              refine sv (o_pickF (rfl) rfl rfl) rfl ?_
              refine sv ((o_as rfl).to (v' := .bool (x || okK1 c.toNat g)) (congrArg Value.bool (by simp only [okK1, Bool.eq_false_iff.2 hk0, decide_eq_false hk97, decide_eq_false hk65, decide_eq_false hk48, Bool.true_and, Bool.and_true, Bool.false_and, Bool.and_false, Bool.true_or, Bool.or_true, Bool.false_or, Bool.or_false, Bool.not_true, Bool.not_false]))) rfl ?_
              refine l_nil ?_
              refine e_in (by simp) ?_
              refine e_K (hK13 _ _ _ _ ?_)
              refine c_region ?_
              refine sv (o_mv rfl) rfl ?_
              refine sv (o_addN rfl rfl (by omega)) rfl ?_
              refine sv (o_as rfl) rfl ?_
              refine l_nil ?_
              exact e_round (σ := Nat × Bool) (s := ⟨j, x⟩) (⟨j + 1, (x || okK1 c.toNat g)⟩) ⟨rfl, rfl, rfl, rfl, rfl, rfl, rfl, trivial⟩ ⟨by omega, by rw [any_succ' _ hgj, ← hx], E⟩ (by dsimp only; omega)
    · skip
      have hx1 : x = kinds.any (okK1 c.toNat) := by rw [hx, List.take_of_length_le (by omega)]
      refine c_exit ?_
      refine e_then (by simp) ?_
      refine e_then (by simp) ?_
      refine e_hit ?_
      refine e_K (hK9 _ _ _ _ ?_)
      refine c_seq fun K14 hK14 => ?_
      refine c_seq fun K15 hK15 => ?_
      refine c_region ?_
      refine sv (o_as rfl) rfl ?_
      refine l_nil ?_
      refine e_K (hK15 _ _ _ _ ?_)
      refine c_block ?_
      refine c_loop (σ := Nat × Bool) (fun ⟨j, x⟩ => [(0, S s), (1, S kinds), (2, S signs), (7, .int .i64 (i : Int)), (8, .int .u8 (c.toNat : Int)), (9, .bool x), (11, .int .i64 (j : Int))]) (fun ⟨j, x⟩ w1 => j ≤ signs.length ∧ x = (kinds.any (okK1 c.toNat) || (signs.take j).any (fun g => decide ((g.toNat : Int) = (c.toNat : Int)))) ∧ Mod [] w w1) (fun ⟨j, x⟩ => signs.length - j) (⟨0, x⟩) ⟨rfl, rfl, rfl, rfl, rfl, rfl, rfl, trivial⟩ (⟨by omega, by rw [hx1]; simp, E⟩) ?_
      rintro ⟨j, x⟩ w3 ⟨hj, hx, E⟩
      refine c_seq fun K16 hK16 => ?_
      refine c_seq fun K17 hK17 => ?_
      refine c_region ?_
      refine sv (o_mv rfl) rfl ?_
      refine sv (o_mv rfl) rfl ?_
      refine sv (o_slen Tryd.underlying9 rfl) rfl ?_
      refine sv (o_lss rfl rfl) rfl ?_
      refine l_nil ?_
      refine e_K (hK17 _ _ _ _ ?_)
      refine c_if rfl (fun h73 => ?_) (fun h73 => ?_)
      · skip
        obtain ⟨g, hgj⟩ : ∃ g, signs[j]? = some g := ⟨_, List.getElem?_eq_getElem (by omega)⟩
        refine c_skip ?_
        refine e_K (hK16 _ _ _ _ ?_)
        refine c_seq fun K18 hK18 => ?_
        refine c_block ?_
        by_cases hk0 : (x) = true
        · skip
          refine c_region ?_
          refine sv (o_mv rfl) rfl ?_
          refine sv (o_mv rfl) rfl ?_
          refine sn rfl (fun e_ => absurd ((hk0).symm.trans e_) (by decide)) rfl ?_
          refine sn rfl (fun e_ => absurd ((hk0).symm.trans e_) (by decide)) rfl ?_
          refine sn rfl (fun e_ => absurd ((hk0).symm.trans e_) (by decide)) rfl ?_
          refine sn rfl (fun e_ => absurd ((hk0).symm.trans e_) (by decide)) rfl ?_
          refine sn rfl (fun e_ => absurd ((hk0).symm.trans e_) (by decide)) rfl ?_
          refine sv (o_pickT (hk0) rfl rfl) rfl ?_
          refine sv ((o_as rfl).to (v' := .bool (x || decide ((g.toNat : Int) = (c.toNat : Int)))) (congrArg Value.bool (by simp only [hk0, Bool.true_and, Bool.and_true, Bool.false_and, Bool.and_false, Bool.true_or, Bool.or_true, Bool.false_or, Bool.or_false, Bool.not_true, Bool.not_false]))) rfl ?_
          refine l_nil ?_
          refine e_in (by simp) ?_
          refine e_K (hK18 _ _ _ _ ?_)
          refine c_region ?_
          refine sv (o_mv rfl) rfl ?_
          refine sv (o_addN rfl rfl (by omega)) rfl ?_
          refine sv (o_as rfl) rfl ?_
          refine l_nil ?_
          exact e_round (σ := Nat × Bool) (s := ⟨j, x⟩) (⟨j + 1, (x || decide ((g.toNat : Int) = (c.toNat : Int)))⟩) ⟨rfl, rfl, rfl, rfl, rfl, rfl, rfl, trivial⟩ ⟨by omega, by rw [any_succ' _ hgj, ← Bool.or_assoc, ← hx], E⟩ (by dsimp only; omega)
        · skip
          by_cases hk1 : (g.toNat : Int) = (c.toNat : Int)
          · skip
            refine c_region ?_
            refine sv (o_mv rfl) rfl ?_
            refine sv (o_mv rfl) rfl ?_
            refine sg rfl (Bool.eq_false_iff.2 hk0) (o_mv rfl) rfl ?_
            refine sg rfl (Bool.eq_false_iff.2 hk0) (o_mv rfl) rfl ?_
            refine sg rfl (Bool.eq_false_iff.2 hk0) (o_sidx Tryd.underlying9 rfl rfl (by omega) (by rw [Int.toNat_natCast]; exact hgj)) rfl ?_
            refine sg rfl (Bool.eq_false_iff.2 hk0) (o_mv rfl) rfl ?_
            refine sg rfl (Bool.eq_false_iff.2 hk0) (o_eql rfl rfl) rfl ?_
            refine sv (o_pickF (Bool.eq_false_iff.2 hk0) rfl rfl) rfl ?_
            refine sv ((o_as rfl).to (v' := .bool (x || decide ((g.toNat : Int) = (c.toNat : Int)))) (congrArg Value.bool (by simp only [Bool.eq_false_iff.2 hk0, decide_eq_true hk1, Bool.true_and, Bool.and_true, Bool.false_and, Bool.and_false, Bool.true_or, Bool.or_true, Bool.false_or, Bool.or_false, Bool.not_true, Bool.not_false]))) rfl ?_
            refine l_nil ?_
            refine e_in (by simp) ?_
            refine e_K (hK18 _ _ _ _ ?_)
            refine c_region ?_
            refine sv (o_mv rfl) rfl ?_
            refine sv (o_addN rfl rfl (by omega)) rfl ?_
            refine sv (o_as rfl) rfl ?_
            refine l_nil ?_
            exact e_round (σ := Nat × Bool) (s := ⟨j, x⟩) (⟨j + 1, (x || decide ((g.toNat : Int) = (c.toNat : Int)))⟩) ⟨rfl, rfl, rfl, rfl, rfl, rfl, rfl, trivial⟩ ⟨by omega, by rw [any_succ' _ hgj, ← Bool.or_assoc, ← hx], E⟩ (by dsimp only; omega)
          · skip
            refine c_region ?_
            refine sv (o_mv rfl) rfl ?_
            refine sv (o_mv rfl) rfl ?_
            refine sg rfl (Bool.eq_false_iff.2 hk0) (o_mv rfl) rfl ?_
            refine sg rfl (Bool.eq_false_iff.2 hk0) (o_mv rfl) rfl ?_
            refine sg rfl (Bool.eq_false_iff.2 hk0) (o_sidx Tryd.underlying9 rfl rfl (by omega) (by rw [Int.toNat_natCast]; exact hgj)) rfl ?_
            refine sg rfl (Bool.eq_false_iff.2 hk0) (o_mv rfl) rfl ?_
            refine sg rfl (Bool.eq_false_iff.2 hk0) (o_eql rfl rfl) rfl ?_
            refine sv (o_pickF (Bool.eq_false_iff.2 hk0) rfl rfl) rfl ?_
            refine sv ((o_as rfl).to (v' := .bool (x || decide ((g.toNat : Int) = (c.toNat : Int)))) (congrArg Value.bool (by simp only [Bool.eq_false_iff.2 hk0, decide_eq_false hk1, Bool.true_and, Bool.and_true, Bool.false_and, Bool.and_false, Bool.true_or, Bool.or_true, Bool.false_or, Bool.or_false, Bool.not_true, Bool.not_false]))) rfl ?_
            refine l_nil ?_
            refine e_in (by simp) ?_
            refine e_K (hK18 _ _ _ _ ?_)
            refine c_region ?_
            refine sv (o_mv rfl) rfl ?_
            refine sv (o_addN rfl rfl (by omega)) rfl ?_
            refine sv (o_as rfl) rfl ?_
            refine l_nil ?_
            exact e_round (σ := Nat × Bool) (s := ⟨j, x⟩) (⟨j + 1, (x || decide ((g.toNat : Int) = (c.toNat : Int)))⟩) ⟨rfl, rfl, rfl, rfl, rfl, rfl, rfl, trivial⟩ ⟨by omega, by rw [any_succ' _ hgj, ← Bool.or_assoc, ← hx], E⟩ (by dsimp only; omega)
      · skip
        have hok : x = okQ kinds signs c.toNat := by rw [hx, List.take_of_length_le (by omega)]; rfl
        refine c_exit ?_
        refine e_then (by simp) ?_
        refine e_then (by simp) ?_
        refine e_hit ?_
        refine e_K (hK14 _ _ _ _ ?_)
        refine c_seq fun K19 hK19 => ?_
        refine c_region ?_
        refine sv (o_mv rfl) rfl ?_
        refine sv (o_not rfl) rfl ?_
        refine l_nil ?_
        refine e_K (hK19 _ _ _ _ ?_)
        refine c_cond rfl (fun h85 => ?_) (fun h85 => ?_)
        · skip
          have hR : allB (okQ kinds signs) s = false := allB_no hc (by rw [← hok]; simpa using h85)
          refine c_seq fun K20 hK20 => ?_
          refine c_region ?_
          refine sv (o_as rfl) rfl ?_
          refine l_nil ?_
          refine e_K (hK20 _ _ _ _ ?_)
          refine c_ret ?_
          refine e_in (by simp) ?_
          refine e_then (by simp) ?_
          refine e_then (by simp) ?_
          refine e_in (by simp) ?_
          refine e_then (by simp) ?_
          exact ret1 rfl rfl ⟨by rw [hR], E⟩
        · skip
          have hnx := all_succ hc ha (show okQ kinds signs c.toNat = true by rw [← hok]; simpa using h85)
          refine c_skip ?_
          refine e_in (by simp) ?_
          refine e_K (hK6 _ _ _ _ ?_)
          refine c_region ?_
          refine sv (o_mv rfl) rfl ?_
          refine sv (o_addN rfl rfl (by omega)) rfl ?_
          refine sv (o_as rfl) rfl ?_
          refine l_nil ?_
          exact e_round (σ := Nat) (s := i) (i + 1) ⟨rfl, rfl, rfl, rfl, trivial⟩ ⟨by omega, hnx, E⟩ (by omega)
  · skip
    have hR := allB_yes (q := okQ kinds signs) (by omega) ha
    refine c_exit ?_
    refine e_then (by simp) ?_
    refine e_then (by simp) ?_
    refine e_hit ?_
    refine e_K (hK2 _ _ _ _ ?_)
    refine c_seq fun K21 hK21 => ?_
    refine c_region ?_
    refine sv (o_mv rfl) rfl ?_
    refine sv (o_sne rfl rfl) rfl ?_
    refine sv (o_as rfl) rfl ?_
    refine l_nil ?_
    refine e_K (hK21 _ _ _ _ ?_)
    refine c_ret ?_
    exact ret1 rfl rfl ⟨by rw [hR], E⟩

theorem c_ofq (w : World) (s kinds signs : Str) (q : Nat → Bool) (hq : ∀ b : UInt8, q b.toNat = okQ kinds signs b.toNat) (hs : s.length ≤ 140737488351232) (hk : kinds.length ≤ 100) (hg : signs.length ≤ 100) : Calls Tryd.prog 66 [S s, S kinds, S signs].toArray w (Ret fun u w' => u = .bool (allB q s) ∧ Mod [] w w') := by
  rw [allB_congr hq s]
  exact c_of w s kinds signs hs hk hg

theorem c_serverR (w : World) (s : Str) (hs : s.length ≤ 140737488351232) : Calls Tryd.prog 32 [S s].toArray w (Ret fun u w' => u = .bool (serverB s) ∧ Mod [] w w') := by
  refine enter Tryd.func32 rfl rfl rfl (l := [(0, _)]) ⟨rfl, trivial⟩ ?_
  have E := Mod.refl [] w
  have hcl := colon_le s
  refine c_seq fun K1 hK1 => ?_
  refine c_region ?_
  refine sv (o_as rfl) rfl ?_
  refine l_nil ?_
  refine e_K (hK1 _ _ _ _ ?_)
  refine c_seq fun K2 hK2 => ?_
  refine c_region ?_
  refine sv (o_mv rfl) rfl ?_
  refine sc (o_call ent65 rfl) (c_colon _ _ (by omega)) rfl fun v_ w1 h_ => ?_
  obtain ⟨rfl, E_⟩ := h_
  replace E := E.then E_
  refine sv (o_as rfl) rfl ?_
  refine l_nil ?_
  refine e_K (hK2 _ _ _ _ ?_)
  refine c_seq fun K3 hK3 => ?_
  refine c_seq fun K4 hK4 => ?_
  by_cases hk0 : (s.length : Int) > 255
  · skip
    refine c_region ?_
    refine sv (o_mv rfl) rfl ?_
    refine sv (o_slen Tryd.underlying9 rfl) rfl ?_
    refine sv (o_gtr rfl rfl) rfl ?_
    refine sv (o_mv rfl) rfl ?_
    refine sn rfl (fun e_ => absurd ((decide_eq_true hk0).symm.trans e_) (by decide)) rfl ?_
    refine sn rfl (fun e_ => absurd ((decide_eq_true hk0).symm.trans e_) (by decide)) rfl ?_
    refine sn rfl (fun e_ => absurd ((decide_eq_true hk0).symm.trans e_) (by decide)) rfl ?_
    refine sn rfl (fun e_ => absurd ((decide_eq_true hk0).symm.trans e_) (by decide)) rfl ?_
    refine sn rfl (fun e_ => absurd ((decide_eq_true hk0).symm.trans e_) (by decide)) rfl ?_
    refine sv (o_pickT (decide_eq_true hk0) rfl rfl) rfl ?_
    refine l_nil ?_
    refine e_K (hK4 _ _ _ _ ?_)
    refine c_true rfl ?_
    have hF : serverB s = false := by rw [serverB, show decide (s.length ≤ 255) = false from decide_eq_false (by omega)]; simp
    refine c_seq fun K5 hK5 => ?_
    refine c_region ?_
    refine sv (o_as rfl) rfl ?_
    refine l_nil ?_
    refine e_K (hK5 _ _ _ _ ?_)
    refine c_ret ?_
    refine e_then (by simp) ?_
    exact ret1 rfl rfl ⟨by rw [hF], E⟩
  · skip
    by_cases hk1 : (!allB qServer (s.take (colonAt s))) = true
    · skip
      refine c_region ?_
      refine sv (o_mv rfl) rfl ?_
      refine sv (o_slen Tryd.underlying9 rfl) rfl ?_
      refine sv (o_gtr rfl rfl) rfl ?_
      refine sv (o_mv rfl) rfl ?_
      refine sg rfl (decide_eq_false hk0) (o_mv rfl) rfl ?_
      refine sg rfl (decide_eq_false hk0) (o_mv rfl) rfl ?_
      refine sg rfl (decide_eq_false hk0) (o_ssto Tryd.underlying9 rfl rfl hcl) rfl ?_
      refine sgc rfl (decide_eq_false hk0) (o_call ent66 rfl) (c_ofq _ (s.take (colonAt s)) [97, 48] [46, 45] _ q_server (by have := colon_le s; simp only [List.length_take, List.length_drop]; omega) (by simp) (by simp)) rfl fun v_ w2 h_ => ?_
      obtain ⟨rfl, E_⟩ := h_
      replace E := E.then E_
      refine sg rfl (decide_eq_false hk0) (o_not rfl) rfl ?_
      refine sv (o_pickF (decide_eq_false hk0) rfl rfl) rfl ?_
      refine l_nil ?_
      refine e_K (hK4 _ _ _ _ ?_)
      refine c_cond rfl (fun h15 => ?_) (fun h15 => absurd ((hk1).symm.trans h15) (by decide))
      have hF : serverB s = false := by rw [serverB, show allB qServer (s.take (colonAt s)) = false by simpa using hk1]; simp
      refine c_seq fun K6 hK6 => ?_
      refine c_region ?_
      refine sv (o_as rfl) rfl ?_
      refine l_nil ?_
      refine e_K (hK6 _ _ _ _ ?_)
      refine c_ret ?_
      refine e_then (by simp) ?_
      exact ret1 rfl rfl ⟨by rw [hF], E⟩
    · skip
      refine c_region ?_
      refine sv (o_mv rfl) rfl ?_
      refine sv (o_slen Tryd.underlying9 rfl) rfl ?_
      refine sv (o_gtr rfl rfl) rfl ?_
      refine sv (o_mv rfl) rfl ?_
      refine sg rfl (decide_eq_false hk0) (o_mv rfl) rfl ?_
      refine sg rfl (decide_eq_false hk0) (o_mv rfl) rfl ?_
      refine sg rfl (decide_eq_false hk0) (o_ssto Tryd.underlying9 rfl rfl hcl) rfl ?_
      refine sgc rfl (decide_eq_false hk0) (o_call ent66 rfl) (c_ofq _ (s.take (colonAt s)) [97, 48] [46, 45] _ q_server (by have := colon_le s; simp only [List.length_take, List.length_drop]; omega) (by simp) (by simp)) rfl fun v_ w3 h_ => ?_
      obtain ⟨rfl, E_⟩ := h_
      replace E := E.then E_
      refine sg rfl (decide_eq_false hk0) (o_not rfl) rfl ?_
      refine sv (o_pickF (decide_eq_false hk0) rfl rfl) rfl ?_
      refine l_nil ?_
      refine e_K (hK4 _ _ _ _ ?_)
      refine c_cond rfl (fun h15 => absurd ((Bool.eq_false_iff.2 hk1).symm.trans h15) (by decide)) (fun h15 => ?_)
      have hA : allB qServer (s.take (colonAt s)) = true := by simpa using hk1
      have hL : decide (s.length ≤ 255) = true := decide_eq_true (by omega)
      refine c_skip ?_
      refine e_K (hK3 _ _ _ _ ?_)
      refine c_seq fun K7 hK7 => ?_
      by_cases hk2 : (colonAt s : Int) = (s.length : Int)
      · skip
        refine c_region ?_
        refine sv (o_mv rfl) rfl ?_
        refine sv (o_mv rfl) rfl ?_
        refine sv (o_slen Tryd.underlying9 rfl) rfl ?_
        refine sv (o_eql rfl rfl) rfl ?_
        refine sv (o_mv rfl) rfl ?_
        refine sn rfl (fun e_ => absurd ((decide_eq_true hk2).symm.trans e_) (by decide)) rfl ?_
        refine sn rfl (fun e_ => absurd ((decide_eq_true hk2).symm.trans e_) (by decide)) rfl ?_
        refine sn rfl (fun e_ => absurd ((decide_eq_true hk2).symm.trans e_) (by decide)) rfl ?_
        refine sn rfl (fun e_ => absurd ((decide_eq_true hk2).symm.trans e_) (by decide)) rfl ?_
        refine sn rfl (fun e_ => absurd ((decide_eq_true hk2).symm.trans e_) (by decide)) rfl ?_
        refine sn rfl (fun e_ => absurd ((decide_eq_true hk2).symm.trans e_) (by decide)) rfl ?_
        refine snu rfl rfl rfl ?_
        refine snu rfl rfl rfl ?_
        refine snu rfl rfl rfl ?_
        refine snu rfl rfl rfl ?_
        refine snu rfl rfl rfl ?_
        refine sn rfl (fun e_ => absurd ((decide_eq_true hk2).symm.trans e_) (by decide)) rfl ?_
        refine sv (o_pickT (decide_eq_true hk2) rfl rfl) rfl ?_
        refine sv (o_as rfl) rfl ?_
        refine l_nil ?_
        refine e_K (hK7 _ _ _ _ ?_)
        refine c_ret ?_
        exact ret1 rfl rfl ⟨congrArg Value.bool (by rw [serverB, hA, hL, server_i1, server_i2]; simp only [decide_eq_true hk2, Bool.true_and, Bool.and_true, Bool.false_and, Bool.and_false, Bool.true_or, Bool.or_true, Bool.false_or, Bool.or_false, Bool.not_true, Bool.not_false]), E⟩
      · skip
        by_cases hk3 : ((s.length - colonAt s : Nat) : Int) ≤ 6
        · skip
          by_cases hk4 : (allB kD (s.drop (colonAt s + 1))) = true
          · skip
            refine c_region ?_
            refine sv (o_mv rfl) rfl ?_
            refine sv (o_mv rfl) rfl ?_
            refine sv (o_slen Tryd.underlying9 rfl) rfl ?_
            refine sv (o_eql rfl rfl) rfl ?_
            refine sv (o_mv rfl) rfl ?_
            refine sg rfl (decide_eq_false hk2) (o_mv rfl) rfl ?_
            refine sg rfl (decide_eq_false hk2) (o_slen Tryd.underlying9 rfl) rfl ?_
            refine sg rfl (decide_eq_false hk2) (o_mv rfl) rfl ?_
            refine sg rfl (decide_eq_false hk2) (o_subE (r := ((s.length - colonAt s : Nat) : Int)) rfl rfl (by rw [wrap64_in _ (by omega)]; omega)) rfl ?_
            refine sg rfl (decide_eq_false hk2) (o_leq rfl rfl) rfl ?_
            refine sg rfl (decide_eq_false hk2) (o_mv rfl) rfl ?_
            refine sg rfl (decide_eq_true hk3) (o_mv rfl) rfl ?_
            refine sg rfl (decide_eq_true hk3) (o_mv rfl) rfl ?_
            refine sg rfl (decide_eq_true hk3) (o_addE (r := ((colonAt s + 1 : Nat) : Int)) rfl rfl (by rw [wrap64_in _ (by omega)]; omega)) rfl ?_
            refine sg rfl (decide_eq_true hk3) (o_ssfrom Tryd.underlying9 rfl rfl (by omega)) rfl ?_
            refine sgc rfl (decide_eq_true hk3) (o_call ent66 rfl) (c_ofq _ (s.drop (colonAt s + 1)) [48] [] _ q_digit (by have := colon_le s; simp only [List.length_take, List.length_drop]; omega) (by simp) (by simp)) rfl fun v_ w4 h_ => ?_
            obtain ⟨rfl, E_⟩ := h_
            replace E := E.then E_
            refine sg rfl (decide_eq_false hk2) (o_pickT (decide_eq_true hk3) rfl rfl) rfl ?_
            refine sv (o_pickF (decide_eq_false hk2) rfl rfl) rfl ?_
            refine sv (o_as rfl) rfl ?_
            refine l_nil ?_
            refine e_K (hK7 _ _ _ _ ?_)
            refine c_ret ?_
            exact ret1 rfl rfl ⟨congrArg Value.bool (by rw [serverB, hA, hL, server_i1, server_i2]; simp only [decide_eq_false hk2, decide_eq_true hk3, hk4, Bool.true_and, Bool.and_true, Bool.false_and, Bool.and_false, Bool.true_or, Bool.or_true, Bool.false_or, Bool.or_false, Bool.not_true, Bool.not_false]), E⟩
          · skip
            refine c_region ?_
            refine sv (o_mv rfl) rfl ?_
            refine sv (o_mv rfl) rfl ?_
            refine sv (o_slen Tryd.underlying9 rfl) rfl ?_
            refine sv (o_eql rfl rfl) rfl ?_
            refine sv (o_mv rfl) rfl ?_
            refine sg rfl (decide_eq_false hk2) (o_mv rfl) rfl ?_
            refine sg rfl (decide_eq_false hk2) (o_slen Tryd.underlying9 rfl) rfl ?_
            refine sg rfl (decide_eq_false hk2) (o_mv rfl) rfl ?_
            refine sg rfl (decide_eq_false hk2) (o_subE (r := ((s.length - colonAt s : Nat) : Int)) rfl rfl (by rw [wrap64_in _ (by omega)]; omega)) rfl ?_
            refine sg rfl (decide_eq_false hk2) (o_leq rfl rfl) rfl ?_
            refine sg rfl (decide_eq_false hk2) (o_mv rfl) rfl ?_
            refine sg rfl (decide_eq_true hk3) (o_mv rfl) rfl ?_
            refine sg rfl (decide_eq_true hk3) (o_mv rfl) rfl ?_
            refine sg rfl (decide_eq_true hk3) (o_addE (r := ((colonAt s + 1 : Nat) : Int)) rfl rfl (by rw [wrap64_in _ (by omega)]; omega)) rfl ?_
            refine sg rfl (decide_eq_true hk3) (o_ssfrom Tryd.underlying9 rfl rfl (by omega)) rfl ?_
            refine sgc rfl (decide_eq_true hk3) (o_call ent66 rfl) (c_ofq _ (s.drop (colonAt s + 1)) [48] [] _ q_digit (by have := colon_le s; simp only [List.length_take, List.length_drop]; omega) (by simp) (by simp)) rfl fun v_ w5 h_ => ?_
            obtain ⟨rfl, E_⟩ := h_
            replace E := E.then E_
            refine sg rfl (decide_eq_false hk2) (o_pickT (decide_eq_true hk3) rfl rfl) rfl ?_
            refine sv (o_pickF (decide_eq_false hk2) rfl rfl) rfl ?_
            refine sv (o_as rfl) rfl ?_
            refine l_nil ?_
            refine e_K (hK7 _ _ _ _ ?_)
            refine c_ret ?_
            exact ret1 rfl rfl ⟨congrArg Value.bool (by rw [serverB, hA, hL, server_i1, server_i2]; simp only [decide_eq_false hk2, decide_eq_true hk3, Bool.eq_false_iff.2 hk4, Bool.true_and, Bool.and_true, Bool.false_and, Bool.and_false, Bool.true_or, Bool.or_true, Bool.false_or, Bool.or_false, Bool.not_true, Bool.not_false]), E⟩
        · skip
          refine c_region ?_
          refine sv (o_mv rfl) rfl ?_
          refine sv (o_mv rfl) rfl ?_
          refine sv (o_slen Tryd.underlying9 rfl) rfl ?_
          refine sv (o_eql rfl rfl) rfl ?_
          refine sv (o_mv rfl) rfl ?_
          refine sg rfl (decide_eq_false hk2) (o_mv rfl) rfl ?_
          refine sg rfl (decide_eq_false hk2) (o_slen Tryd.underlying9 rfl) rfl ?_
          refine sg rfl (decide_eq_false hk2) (o_mv rfl) rfl ?_
          refine sg rfl (decide_eq_false hk2) (o_subE (r := ((s.length - colonAt s : Nat) : Int)) rfl rfl (by rw [wrap64_in _ (by omega)]; omega)) rfl ?_
          refine sg rfl (decide_eq_false hk2) (o_leq rfl rfl) rfl ?_
          refine sg rfl (decide_eq_false hk2) (o_mv rfl) rfl ?_
          refine sn rfl (fun e_ => absurd ((decide_eq_false hk3).symm.trans e_) (by decide)) rfl ?_
          refine sn rfl (fun e_ => absurd ((decide_eq_false hk3).symm.trans e_) (by decide)) rfl ?_
          refine sn rfl (fun e_ => absurd ((decide_eq_false hk3).symm.trans e_) (by decide)) rfl ?_
          refine sn rfl (fun e_ => absurd ((decide_eq_false hk3).symm.trans e_) (by decide)) rfl ?_
          refine sn rfl (fun e_ => absurd ((decide_eq_false hk3).symm.trans e_) (by decide)) rfl ?_
          refine sg rfl (decide_eq_false hk2) (o_pickF (decide_eq_false hk3) rfl rfl) rfl ?_
          refine sv (o_pickF (decide_eq_false hk2) rfl rfl) rfl ?_
          refine sv (o_as rfl) rfl ?_
          refine l_nil ?_
          refine e_K (hK7 _ _ _ _ ?_)
          refine c_ret ?_
          exact ret1 rfl rfl ⟨congrArg Value.bool (by rw [serverB, hA, hL, server_i1, server_i2]; simp only [decide_eq_false hk2, decide_eq_false hk3, Bool.true_and, Bool.and_true, Bool.false_and, Bool.and_false, Bool.true_or, Bool.or_true, Bool.false_or, Bool.or_false, Bool.not_true, Bool.not_false]), E⟩

theorem c_named (w : World) (s : Str) (sign : UInt8) (kinds signs : Str) (q : Nat → Bool) (hq : ∀ b : UInt8, q b.toNat = okQ kinds signs b.toNat) (h58 : sign ≠ 58) (hs : s.length ≤ 140737488351232) (hk : kinds.length ≤ 100) (hg : signs.length ≤ 100) : Calls Tryd.prog 67 [S s, .int .u8 (sign.toNat : Int), S kinds, S signs].toArray w (Ret fun u w' => u = .bool (namedB sign q s) ∧ Mod [] w w') := by
  refine enter Tryd.func67 rfl rfl rfl (l := [(0, _), (1, _), (2, _), (3, _)]) ⟨rfl, rfl, rfl, rfl, trivial⟩ ?_
  have E := Mod.refl [] w
  have hcl := colon_le s
  refine c_seq fun K1 hK1 => ?_
  refine c_region ?_
  refine sv (o_as rfl) rfl ?_
  refine l_nil ?_
  refine e_K (hK1 _ _ _ _ ?_)
  refine c_seq fun K2 hK2 => ?_
  refine c_region ?_
  refine sv (o_mv rfl) rfl ?_
  refine sc (o_call ent65 rfl) (c_colon _ _ (by omega)) rfl fun v_ w1 h_ => ?_
  obtain ⟨rfl, E_⟩ := h_
  replace E := E.then E_
  refine sv (o_as rfl) rfl ?_
  refine l_nil ?_
  refine e_K (hK2 _ _ _ _ ?_)
  refine c_seq fun K3 hK3 => ?_
  by_cases hk0 : (s.length : Int) ≤ 255
  · skip
    by_cases hk1 : (colonAt s : Int) < (s.length : Int)
    · skip
      by_cases hk2 : (colonAt s : Int) > 0
      · skip
        obtain ⟨b0, hb0⟩ : ∃ b, s[0]? = some b := ⟨_, List.getElem?_eq_getElem (by omega)⟩
        have hhd := head_dec (sign := sign) hb0
        by_cases hk3 : (b0.toNat : Int) = (sign.toNat : Int)
        · skip
          by_cases hk4 : (allB q ((s.take (colonAt s)).drop 1)) = true
          · skip
            by_cases hk5 : (serverB (s.drop (colonAt s + 1))) = true
            · skip
              refine c_region ?_
              refine sv (o_mv rfl) rfl ?_
              refine sv (o_slen Tryd.underlying9 rfl) rfl ?_
              refine sv (o_leq rfl rfl) rfl ?_
              refine sv (o_mv rfl) rfl ?_
              refine sg rfl (decide_eq_true hk0) (o_mv rfl) rfl ?_
              refine sg rfl (decide_eq_true hk0) (o_mv rfl) rfl ?_
              refine sg rfl (decide_eq_true hk0) (o_slen Tryd.underlying9 rfl) rfl ?_
              refine sg rfl (decide_eq_true hk0) (o_lss rfl rfl) rfl ?_
              refine sv (o_pickT (decide_eq_true hk0) rfl rfl) rfl ?_
              refine sv (o_mv rfl) rfl ?_
              refine sg rfl (decide_eq_true hk1) (o_mv rfl) rfl ?_
              refine sg rfl (decide_eq_true hk1) (o_gtr rfl rfl) rfl ?_
              refine sv (o_pickT (decide_eq_true hk1) rfl rfl) rfl ?_
              refine sv (o_mv rfl) rfl ?_
              refine sg rfl (decide_eq_true hk2) (o_mv rfl) rfl ?_
              refine sg rfl (decide_eq_true hk2) (o_sidx Tryd.underlying9 rfl rfl (by omega) hb0) rfl ?_
              refine sg rfl (decide_eq_true hk2) (o_mv rfl) rfl ?_
              refine sg rfl (decide_eq_true hk2) (o_eql rfl rfl) rfl ?_
              refine sv (o_pickT (decide_eq_true hk2) rfl rfl) rfl ?_
              refine sv (o_mv rfl) rfl ?_
              refine sg rfl (decide_eq_true hk3) (o_mv rfl) rfl ?_
              refine sg rfl (decide_eq_true hk3) (o_mv rfl) rfl ?_
              refine sg rfl (decide_eq_true hk3) (o_ssmid (m := 1) Tryd.underlying9 rfl rfl rfl (by omega)) rfl ?_
              refine sg rfl (decide_eq_true hk3) (o_mv rfl) rfl ?_
              refine sg rfl (decide_eq_true hk3) (o_mv rfl) rfl ?_
              refine sgc rfl (decide_eq_true hk3) (o_call ent66 rfl) (c_ofq _ ((s.take (colonAt s)).drop 1) kinds signs q hq (by have := colon_le s; simp only [List.length_take, List.length_drop]; omega) hk hg) rfl fun v_ w2 h_ => ?_
              obtain ⟨rfl, E_⟩ := h_
              replace E := E.then E_
              refine sv (o_pickT (decide_eq_true hk3) rfl rfl) rfl ?_
              refine sv (o_mv rfl) rfl ?_
              refine sg rfl (hk4) (o_mv rfl) rfl ?_
              refine sg rfl (hk4) (o_mv rfl) rfl ?_
              refine sg rfl (hk4) (o_addE (r := ((colonAt s + 1 : Nat) : Int)) rfl rfl (by rw [wrap64_in _ (by omega)]; omega)) rfl ?_
              refine sg rfl (hk4) (o_ssfrom Tryd.underlying9 rfl rfl (by omega)) rfl ?_
              refine sgc rfl (hk4) (o_call ent32 rfl) (c_serverR _ (s.drop (colonAt s + 1)) (by have := colon_le s; simp only [List.length_take, List.length_drop]; omega)) rfl fun v_ w3 h_ => ?_
              obtain ⟨rfl, E_⟩ := h_
              replace E := E.then E_
              refine sv (o_pickT (hk4) rfl rfl) rfl ?_
              refine sv (o_as rfl) rfl ?_
              refine l_nil ?_
              refine e_K (hK3 _ _ _ _ ?_)
              refine c_ret ?_
              exact ret1 rfl rfl ⟨congrArg Value.bool (by rw [named_form]; simp only [hhd, decide_eq_true hk0, decide_eq_true hk1, decide_eq_true hk2, decide_eq_true hk3, hk4, hk5, Bool.true_and, Bool.and_true, Bool.false_and, Bool.and_false, Bool.true_or, Bool.or_true, Bool.false_or, Bool.or_false, Bool.not_true, Bool.not_false]), E⟩
            · skip
              refine c_region ?_
              refine sv (o_mv rfl) rfl ?_
              refine sv (o_slen Tryd.underlying9 rfl) rfl ?_
              refine sv (o_leq rfl rfl) rfl ?_
              refine sv (o_mv rfl) rfl ?_
              refine sg rfl (decide_eq_true hk0) (o_mv rfl) rfl ?_
              refine sg rfl (decide_eq_true hk0) (o_mv rfl) rfl ?_
              refine sg rfl (decide_eq_true hk0) (o_slen Tryd.underlying9 rfl) rfl ?_
              refine sg rfl (decide_eq_true hk0) (o_lss rfl rfl) rfl ?_
              refine sv (o_pickT (decide_eq_true hk0) rfl rfl) rfl ?_
              refine sv (o_mv rfl) rfl ?_
              refine sg rfl (decide_eq_true hk1) (o_mv rfl) rfl ?_
              refine sg rfl (decide_eq_true hk1) (o_gtr rfl rfl) rfl ?_
              refine sv (o_pickT (decide_eq_true hk1) rfl rfl) rfl ?_
              refine sv (o_mv rfl) rfl ?_
              refine sg rfl (decide_eq_true hk2) (o_mv rfl) rfl ?_
              refine sg rfl (decide_eq_true hk2) (o_sidx Tryd.underlying9 rfl rfl (by omega) hb0) rfl ?_
              refine sg rfl (decide_eq_true hk2) (o_mv rfl) rfl ?_
              refine sg rfl (decide_eq_true hk2) (o_eql rfl rfl) rfl ?_
              refine sv (o_pickT (decide_eq_true hk2) rfl rfl) rfl ?_
              refine sv (o_mv rfl) rfl ?_
              refine sg rfl (decide_eq_true hk3) (o_mv rfl) rfl ?_
              refine sg rfl (decide_eq_true hk3) (o_mv rfl) rfl ?_
              refine sg rfl (decide_eq_true hk3) (o_ssmid (m := 1) Tryd.underlying9 rfl rfl rfl (by omega)) rfl ?_
              refine sg rfl (decide_eq_true hk3) (o_mv rfl) rfl ?_
              refine sg rfl (decide_eq_true hk3) (o_mv rfl) rfl ?_
              refine sgc rfl (decide_eq_true hk3) (o_call ent66 rfl) (c_ofq _ ((s.take (colonAt s)).drop 1) kinds signs q hq (by have := colon_le s; simp only [List.length_take, List.length_drop]; omega) hk hg) rfl fun v_ w4 h_ => ?_
              obtain ⟨rfl, E_⟩ := h_
              replace E := E.then E_
              refine sv (o_pickT (decide_eq_true hk3) rfl rfl) rfl ?_
              refine sv (o_mv rfl) rfl ?_
              refine sg rfl (hk4) (o_mv rfl) rfl ?_
              refine sg rfl (hk4) (o_mv rfl) rfl ?_
              refine sg rfl (hk4) (o_addE (r := ((colonAt s + 1 : Nat) : Int)) rfl rfl (by rw [wrap64_in _ (by omega)]; omega)) rfl ?_
              refine sg rfl (hk4) (o_ssfrom Tryd.underlying9 rfl rfl (by omega)) rfl ?_
              refine sgc rfl (hk4) (o_call ent32 rfl) (c_serverR _ (s.drop (colonAt s + 1)) (by have := colon_le s; simp only [List.length_take, List.length_drop]; omega)) rfl fun v_ w5 h_ => ?_
              obtain ⟨rfl, E_⟩ := h_
              replace E := E.then E_
              refine sv (o_pickT (hk4) rfl rfl) rfl ?_
              refine sv (o_as rfl) rfl ?_
              refine l_nil ?_
              refine e_K (hK3 _ _ _ _ ?_)
              refine c_ret ?_
              exact ret1 rfl rfl ⟨congrArg Value.bool (by rw [named_form]; simp only [hhd, decide_eq_true hk0, decide_eq_true hk1, decide_eq_true hk2, decide_eq_true hk3, hk4, Bool.eq_false_iff.2 hk5, Bool.true_and, Bool.and_true, Bool.false_and, Bool.and_false, Bool.true_or, Bool.or_true, Bool.false_or, Bool.or_false, Bool.not_true, Bool.not_false]), E⟩
          · skip
            refine c_region ?_
            refine sv (o_mv rfl) rfl ?_
            refine sv (o_slen Tryd.underlying9 rfl) rfl ?_
            refine sv (o_leq rfl rfl) rfl ?_
            refine sv (o_mv rfl) rfl ?_
            refine sg rfl (decide_eq_true hk0) (o_mv rfl) rfl ?_
            refine sg rfl (decide_eq_true hk0) (o_mv rfl) rfl ?_
            refine sg rfl (decide_eq_true hk0) (o_slen Tryd.underlying9 rfl) rfl ?_
            refine sg rfl (decide_eq_true hk0) (o_lss rfl rfl) rfl ?_
            refine sv (o_pickT (decide_eq_true hk0) rfl rfl) rfl ?_
            refine sv (o_mv rfl) rfl ?_
            refine sg rfl (decide_eq_true hk1) (o_mv rfl) rfl ?_
            refine sg rfl (decide_eq_true hk1) (o_gtr rfl rfl) rfl ?_
            refine sv (o_pickT (decide_eq_true hk1) rfl rfl) rfl ?_
            refine sv (o_mv rfl) rfl ?_
            refine sg rfl (decide_eq_true hk2) (o_mv rfl) rfl ?_
            refine sg rfl (decide_eq_true hk2) (o_sidx Tryd.underlying9 rfl rfl (by omega) hb0) rfl ?_
            refine sg rfl (decide_eq_true hk2) (o_mv rfl) rfl ?_
            refine sg rfl (decide_eq_true hk2) (o_eql rfl rfl) rfl ?_
            refine sv (o_pickT (decide_eq_true hk2) rfl rfl) rfl ?_
            refine sv (o_mv rfl) rfl ?_
            refine sg rfl (decide_eq_true hk3) (o_mv rfl) rfl ?_
            refine sg rfl (decide_eq_true hk3) (o_mv rfl) rfl ?_
            refine sg rfl (decide_eq_true hk3) (o_ssmid (m := 1) Tryd.underlying9 rfl rfl rfl (by omega)) rfl ?_
            refine sg rfl (decide_eq_true hk3) (o_mv rfl) rfl ?_
            refine sg rfl (decide_eq_true hk3) (o_mv rfl) rfl ?_
            refine sgc rfl (decide_eq_true hk3) (o_call ent66 rfl) (c_ofq _ ((s.take (colonAt s)).drop 1) kinds signs q hq (by have := colon_le s; simp only [List.length_take, List.length_drop]; omega) hk hg) rfl fun v_ w6 h_ => ?_
            obtain ⟨rfl, E_⟩ := h_
            replace E := E.then E_
            refine sv (o_pickT (decide_eq_true hk3) rfl rfl) rfl ?_
            refine sv (o_mv rfl) rfl ?_
            refine sn rfl (fun e_ => absurd ((Bool.eq_false_iff.2 hk4).symm.trans e_) (by decide)) rfl ?_
            refine sn rfl (fun e_ => absurd ((Bool.eq_false_iff.2 hk4).symm.trans e_) (by decide)) rfl ?_
            refine sn rfl (fun e_ => absurd ((Bool.eq_false_iff.2 hk4).symm.trans e_) (by decide)) rfl ?_
            refine sn rfl (fun e_ => absurd ((Bool.eq_false_iff.2 hk4).symm.trans e_) (by decide)) rfl ?_
            refine sn rfl (fun e_ => absurd ((Bool.eq_false_iff.2 hk4).symm.trans e_) (by decide)) rfl ?_
            refine sv (o_pickF (Bool.eq_false_iff.2 hk4) rfl rfl) rfl ?_
            refine sv (o_as rfl) rfl ?_
            refine l_nil ?_
            refine e_K (hK3 _ _ _ _ ?_)
            refine c_ret ?_
            exact ret1 rfl rfl ⟨congrArg Value.bool (by rw [named_form]; simp only [hhd, decide_eq_true hk0, decide_eq_true hk1, decide_eq_true hk2, decide_eq_true hk3, Bool.eq_false_iff.2 hk4, Bool.true_and, Bool.and_true, Bool.false_and, Bool.and_false, Bool.true_or, Bool.or_true, Bool.false_or, Bool.or_false, Bool.not_true, Bool.not_false]), E⟩
        · skip
          refine c_region ?_
          refine sv (o_mv rfl) rfl ?_
          refine sv (o_slen Tryd.underlying9 rfl) rfl ?_
          refine sv (o_leq rfl rfl) rfl ?_
          refine sv (o_mv rfl) rfl ?_
          refine sg rfl (decide_eq_true hk0) (o_mv rfl) rfl ?_
          refine sg rfl (decide_eq_true hk0) (o_mv rfl) rfl ?_
          refine sg rfl (decide_eq_true hk0) (o_slen Tryd.underlying9 rfl) rfl ?_
          refine sg rfl (decide_eq_true hk0) (o_lss rfl rfl) rfl ?_
          refine sv (o_pickT (decide_eq_true hk0) rfl rfl) rfl ?_
          refine sv (o_mv rfl) rfl ?_
          refine sg rfl (decide_eq_true hk1) (o_mv rfl) rfl ?_
          refine sg rfl (decide_eq_true hk1) (o_gtr rfl rfl) rfl ?_
          refine sv (o_pickT (decide_eq_true hk1) rfl rfl) rfl ?_
          refine sv (o_mv rfl) rfl ?_
          refine sg rfl (decide_eq_true hk2) (o_mv rfl) rfl ?_
          refine sg rfl (decide_eq_true hk2) (o_sidx Tryd.underlying9 rfl rfl (by omega) hb0) rfl ?_
          refine sg rfl (decide_eq_true hk2) (o_mv rfl) rfl ?_
          refine sg rfl (decide_eq_true hk2) (o_eql rfl rfl) rfl ?_
          refine sv (o_pickT (decide_eq_true hk2) rfl rfl) rfl ?_
          refine sv (o_mv rfl) rfl ?_
          refine sn rfl (fun e_ => absurd ((decide_eq_false hk3).symm.trans e_) (by decide)) rfl ?_
          refine sn rfl (fun e_ => absurd ((decide_eq_false hk3).symm.trans e_) (by decide)) rfl ?_
          refine sn rfl (fun e_ => absurd ((decide_eq_false hk3).symm.trans e_) (by decide)) rfl ?_
          refine sn rfl (fun e_ => absurd ((decide_eq_false hk3).symm.trans e_) (by decide)) rfl ?_
          refine sn rfl (fun e_ => absurd ((decide_eq_false hk3).symm.trans e_) (by decide)) rfl ?_
          refine sn rfl (fun e_ => absurd ((decide_eq_false hk3).symm.trans e_) (by decide)) rfl ?_
          refine sv (o_pickF (decide_eq_false hk3) rfl rfl) rfl ?_
          refine sv (o_mv rfl) rfl ?_
          refine sn rfl (fun e_ => absurd ((rfl).symm.trans e_) (by decide)) rfl ?_
          refine sn rfl (fun e_ => absurd ((rfl).symm.trans e_) (by decide)) rfl ?_
          refine sn rfl (fun e_ => absurd ((rfl).symm.trans e_) (by decide)) rfl ?_
          refine sn rfl (fun e_ => absurd ((rfl).symm.trans e_) (by decide)) rfl ?_
          refine sn rfl (fun e_ => absurd ((rfl).symm.trans e_) (by decide)) rfl ?_
          refine sv (o_pickF (rfl) rfl rfl) rfl ?_
          refine sv (o_as rfl) rfl ?_
          refine l_nil ?_
          refine e_K (hK3 _ _ _ _ ?_)
          refine c_ret ?_
          exact ret1 rfl rfl ⟨congrArg Value.bool (by rw [named_form]; simp only [hhd, decide_eq_true hk0, decide_eq_true hk1, decide_eq_true hk2, decide_eq_false hk3, Bool.true_and, Bool.and_true, Bool.false_and, Bool.and_false, Bool.true_or, Bool.or_true, Bool.false_or, Bool.or_false, Bool.not_true, Bool.not_false]), E⟩
      · skip
        have hh0 := head_no h58 hk2
        refine c_region ?_
        refine sv (o_mv rfl) rfl ?_
        refine sv (o_slen Tryd.underlying9 rfl) rfl ?_
        refine sv (o_leq rfl rfl) rfl ?_
        refine sv (o_mv rfl) rfl ?_
        refine sg rfl (decide_eq_true hk0) (o_mv rfl) rfl ?_
        refine sg rfl (decide_eq_true hk0) (o_mv rfl) rfl ?_
        refine sg rfl (decide_eq_true hk0) (o_slen Tryd.underlying9 rfl) rfl ?_
        refine sg rfl (decide_eq_true hk0) (o_lss rfl rfl) rfl ?_
        refine sv (o_pickT (decide_eq_true hk0) rfl rfl) rfl ?_
        refine sv (o_mv rfl) rfl ?_
        refine sg rfl (decide_eq_true hk1) (o_mv rfl) rfl ?_
        refine sg rfl (decide_eq_true hk1) (o_gtr rfl rfl) rfl ?_
        refine sv (o_pickT (decide_eq_true hk1) rfl rfl) rfl ?_
        refine sv (o_mv rfl) rfl ?_
        refine sn rfl (fun e_ => absurd ((decide_eq_false hk2).symm.trans e_) (by decide)) rfl ?_
        refine sn rfl (fun e_ => absurd ((decide_eq_false hk2).symm.trans e_) (by decide)) rfl ?_
        refine sn rfl (fun e_ => absurd ((decide_eq_false hk2).symm.trans e_) (by decide)) rfl ?_
        refine sn rfl (fun e_ => absurd ((decide_eq_false hk2).symm.trans e_) (by decide)) rfl ?_
        refine sv (o_pickF (decide_eq_false hk2) rfl rfl) rfl ?_
        refine sv (o_mv rfl) rfl ?_
        refine sn rfl (fun e_ => absurd ((rfl).symm.trans e_) (by decide)) rfl ?_
        refine sn rfl (fun e_ => absurd ((rfl).symm.trans e_) (by decide)) rfl ?_
        refine sn rfl (fun e_ => absurd ((rfl).symm.trans e_) (by decide)) rfl ?_
        refine sn rfl (fun e_ => absurd ((rfl).symm.trans e_) (by decide)) rfl ?_
        refine sn rfl (fun e_ => absurd ((rfl).symm.trans e_) (by decide)) rfl ?_
        refine sn rfl (fun e_ => absurd ((rfl).symm.trans e_) (by decide)) rfl ?_
        refine sv (o_pickF (rfl) rfl rfl) rfl ?_
        refine sv (o_mv rfl) rfl ?_
        refine sn rfl (fun e_ => absurd ((rfl).symm.trans e_) (by decide)) rfl ?_
        refine sn rfl (fun e_ => absurd ((rfl).symm.trans e_) (by decide)) rfl ?_
        refine sn rfl (fun e_ => absurd ((rfl).symm.trans e_) (by decide)) rfl ?_
        refine sn rfl (fun e_ => absurd ((rfl).symm.trans e_) (by decide)) rfl ?_
        refine sn rfl (fun e_ => absurd ((rfl).symm.trans e_) (by decide)) rfl ?_
        refine sv (o_pickF (rfl) rfl rfl) rfl ?_
        refine sv (o_as rfl) rfl ?_
        refine l_nil ?_
        refine e_K (hK3 _ _ _ _ ?_)
        refine c_ret ?_
        exact ret1 rfl rfl ⟨congrArg Value.bool (by rw [named_form]; simp only [hh0, decide_eq_true hk0, decide_eq_true hk1, decide_eq_false hk2, Bool.true_and, Bool.and_true, Bool.false_and, Bool.and_false, Bool.true_or, Bool.or_true, Bool.false_or, Bool.or_false, Bool.not_true, Bool.not_false]), E⟩
    · skip
      refine c_region ?_
      refine sv (o_mv rfl) rfl ?_
      refine sv (o_slen Tryd.underlying9 rfl) rfl ?_
      refine sv (o_leq rfl rfl) rfl ?_
      refine sv (o_mv rfl) rfl ?_
      refine sg rfl (decide_eq_true hk0) (o_mv rfl) rfl ?_
      refine sg rfl (decide_eq_true hk0) (o_mv rfl) rfl ?_
      refine sg rfl (decide_eq_true hk0) (o_slen Tryd.underlying9 rfl) rfl ?_
      refine sg rfl (decide_eq_true hk0) (o_lss rfl rfl) rfl ?_
      refine sv (o_pickT (decide_eq_true hk0) rfl rfl) rfl ?_
      refine sv (o_mv rfl) rfl ?_
      refine sn rfl (fun e_ => absurd ((decide_eq_false hk1).symm.trans e_) (by decide)) rfl ?_
      refine sn rfl (fun e_ => absurd ((decide_eq_false hk1).symm.trans e_) (by decide)) rfl ?_
      refine sv (o_pickF (decide_eq_false hk1) rfl rfl) rfl ?_
      refine sv (o_mv rfl) rfl ?_
      refine sn rfl (fun e_ => absurd ((rfl).symm.trans e_) (by decide)) rfl ?_
      refine sn rfl (fun e_ => absurd ((rfl).symm.trans e_) (by decide)) rfl ?_
      refine sn rfl (fun e_ => absurd ((rfl).symm.trans e_) (by decide)) rfl ?_
      refine sn rfl (fun e_ => absurd ((rfl).symm.trans e_) (by decide)) rfl ?_
      refine sv (o_pickF (rfl) rfl rfl) rfl ?_
      refine sv (o_mv rfl) rfl ?_
      refine sn rfl (fun e_ => absurd ((rfl).symm.trans e_) (by decide)) rfl ?_
      refine sn rfl (fun e_ => absurd ((rfl).symm.trans e_) (by decide)) rfl ?_
      refine sn rfl (fun e_ => absurd ((rfl).symm.trans e_) (by decide)) rfl ?_
      refine sn rfl (fun e_ => absurd ((rfl).symm.trans e_) (by decide)) rfl ?_
      refine sn rfl (fun e_ => absurd ((rfl).symm.trans e_) (by decide)) rfl ?_
      refine sn rfl (fun e_ => absurd ((rfl).symm.trans e_) (by decide)) rfl ?_
      refine sv (o_pickF (rfl) rfl rfl) rfl ?_
      refine sv (o_mv rfl) rfl ?_
      refine sn rfl (fun e_ => absurd ((rfl).symm.trans e_) (by decide)) rfl ?_
      refine sn rfl (fun e_ => absurd ((rfl).symm.trans e_) (by decide)) rfl ?_
      refine sn rfl (fun e_ => absurd ((rfl).symm.trans e_) (by decide)) rfl ?_
      refine sn rfl (fun e_ => absurd ((rfl).symm.trans e_) (by decide)) rfl ?_
      refine sn rfl (fun e_ => absurd ((rfl).symm.trans e_) (by decide)) rfl ?_
      refine sv (o_pickF (rfl) rfl rfl) rfl ?_
      refine sv (o_as rfl) rfl ?_
      refine l_nil ?_
      refine e_K (hK3 _ _ _ _ ?_)
      refine c_ret ?_
      exact ret1 rfl rfl ⟨congrArg Value.bool (by rw [named_form]; simp only [decide_eq_true hk0, decide_eq_false hk1, Bool.true_and, Bool.and_true, Bool.false_and, Bool.and_false, Bool.true_or, Bool.or_true, Bool.false_or, Bool.or_false, Bool.not_true, Bool.not_false]), E⟩
  · skip
    refine c_region ?_
    refine sv (o_mv rfl) rfl ?_
    refine sv (o_slen Tryd.underlying9 rfl) rfl ?_
    refine sv (o_leq rfl rfl) rfl ?_
    refine sv (o_mv rfl) rfl ?_
    refine sn rfl (fun e_ => absurd ((decide_eq_false hk0).symm.trans e_) (by decide)) rfl ?_
    refine sn rfl (fun e_ => absurd ((decide_eq_false hk0).symm.trans e_) (by decide)) rfl ?_
    refine sn rfl (fun e_ => absurd ((decide_eq_false hk0).symm.trans e_) (by decide)) rfl ?_
    refine sn rfl (fun e_ => absurd ((decide_eq_false hk0).symm.trans e_) (by decide)) rfl ?_
    refine sv (o_pickF (decide_eq_false hk0) rfl rfl) rfl ?_
    refine sv (o_mv rfl) rfl ?_
    refine sn rfl (fun e_ => absurd ((rfl).symm.trans e_) (by decide)) rfl ?_
    refine sn rfl (fun e_ => absurd ((rfl).symm.trans e_) (by decide)) rfl ?_
    refine sv (o_pickF (rfl) rfl rfl) rfl ?_
    refine sv (o_mv rfl) rfl ?_
    refine sn rfl (fun e_ => absurd ((rfl).symm.trans e_) (by decide)) rfl ?_
    refine sn rfl (fun e_ => absurd ((rfl).symm.trans e_) (by decide)) rfl ?_
    refine sn rfl (fun e_ => absurd ((rfl).symm.trans e_) (by decide)) rfl ?_
    refine sn rfl (fun e_ => absurd ((rfl).symm.trans e_) (by decide)) rfl ?_
    refine sv (o_pickF (rfl) rfl rfl) rfl ?_
    refine sv (o_mv rfl) rfl ?_
    refine sn rfl (fun e_ => absurd ((rfl).symm.trans e_) (by decide)) rfl ?_
    refine sn rfl (fun e_ => absurd ((rfl).symm.trans e_) (by decide)) rfl ?_
    refine sn rfl (fun e_ => absurd ((rfl).symm.trans e_) (by decide)) rfl ?_
    refine sn rfl (fun e_ => absurd ((rfl).symm.trans e_) (by decide)) rfl ?_
    refine sn rfl (fun e_ => absurd ((rfl).symm.trans e_) (by decide)) rfl ?_
    refine sn rfl (fun e_ => absurd ((rfl).symm.trans e_) (by decide)) rfl ?_
    refine sv (o_pickF (rfl) rfl rfl) rfl ?_
    refine sv (o_mv rfl) rfl ?_
    refine sn rfl (fun e_ => absurd ((rfl).symm.trans e_) (by decide)) rfl ?_
    refine sn rfl (fun e_ => absurd ((rfl).symm.trans e_) (by decide)) rfl ?_
    refine sn rfl (fun e_ => absurd ((rfl).symm.trans e_) (by decide)) rfl ?_
    refine sn rfl (fun e_ => absurd ((rfl).symm.trans e_) (by decide)) rfl ?_
    refine sn rfl (fun e_ => absurd ((rfl).symm.trans e_) (by decide)) rfl ?_
    refine sv (o_pickF (rfl) rfl rfl) rfl ?_
    refine sv (o_as rfl) rfl ?_
    refine l_nil ?_
    refine e_K (hK3 _ _ _ _ ?_)
    refine c_ret ?_
    exact ret1 rfl rfl ⟨congrArg Value.bool (by rw [named_form]; simp only [decide_eq_false hk0, Bool.true_and, Bool.and_true, Bool.false_and, Bool.and_false, Bool.true_or, Bool.or_true, Bool.false_or, Bool.or_false, Bool.not_true, Bool.not_false]), E⟩

theorem c_userR (w : World) (s : Str) (hs : s.length ≤ 140737488351232) : Calls Tryd.prog 36 [S s].toArray w (Ret fun u w' => u = .bool (namedB 64 qUser s) ∧ Mod [] w w') := by
  refine enter Tryd.func36 rfl rfl rfl (l := [(0, _)]) ⟨rfl, trivial⟩ ?_
  have E := Mod.refl [] w
  refine c_seq fun K1 hK1 => ?_
  refine c_region ?_
  refine sv (o_as rfl) rfl ?_
  refine l_nil ?_
  refine e_K (hK1 _ _ _ _ ?_)
  refine c_seq fun K2 hK2 => ?_
  refine c_region ?_
  refine sv (o_mv rfl) rfl ?_
  refine sc (o_call ent67 rfl) (c_named _ s 64 [97, 48] userS qUser q_user (by decide) hs (by simp) (by simp)) rfl fun v_ w1 h_ => ?_
  obtain ⟨rfl, E_⟩ := h_
  replace E := E.then E_
  refine sv (o_as rfl) rfl ?_
  refine l_nil ?_
  refine e_K (hK2 _ _ _ _ ?_)
  refine c_ret ?_
  exact ret1 rfl rfl ⟨rfl, E⟩

theorem c_roomR (w : World) (s : Str) (hs : s.length ≤ 140737488351232) : Calls Tryd.prog 35 [S s].toArray w (Ret fun u w' => u = .bool (namedB 33 qRoom s) ∧ Mod [] w w') := by
  refine enter Tryd.func35 rfl rfl rfl (l := [(0, _)]) ⟨rfl, trivial⟩ ?_
  have E := Mod.refl [] w
  refine c_seq fun K1 hK1 => ?_
  refine c_region ?_
  refine sv (o_as rfl) rfl ?_
  refine l_nil ?_
  refine e_K (hK1 _ _ _ _ ?_)
  refine c_seq fun K2 hK2 => ?_
  refine c_region ?_
  refine sv (o_mv rfl) rfl ?_
  refine sc (o_call ent67 rfl) (c_named _ s 33 [97, 65, 48] [95, 45] qRoom q_room (by decide) hs (by simp) (by simp)) rfl fun v_ w1 h_ => ?_
  obtain ⟨rfl, E_⟩ := h_
  replace E := E.then E_
  refine sv (o_as rfl) rfl ?_
  refine l_nil ?_
  refine e_K (hK2 _ _ _ _ ?_)
  refine c_ret ?_
  exact ret1 rfl rfl ⟨rfl, E⟩

theorem c_keyR (w : World) (s : Str) (hs : s.length ≤ 140737488351232) : Calls Tryd.prog 33 [S s].toArray w (Ret fun u w' => u = .bool (keyB s) ∧ Mod [] w w') := by
  refine enter Tryd.func33 rfl rfl rfl (l := [(0, _)]) ⟨rfl, trivial⟩ ?_
  have E := Mod.refl [] w
  refine c_seq fun K1 hK1 => ?_
  refine c_region ?_
  refine sv (o_as rfl) rfl ?_
  refine l_nil ?_
  refine e_K (hK1 _ _ _ _ ?_)
  refine c_seq fun K2 hK2 => ?_
  by_cases hk0 : (s.length : Int) ≤ 255
  · skip
    by_cases hk1 : (s.length : Int) > 8
    · skip
      by_cases hk2 : s.take 8 = edS
      · skip
        by_cases hk3 : (allB qKey (s.drop 8)) = true
        · skip
          refine c_region ?_
          refine sv (o_mv rfl) rfl ?_
          refine sv (o_slen Tryd.underlying9 rfl) rfl ?_
          refine sv (o_leq rfl rfl) rfl ?_
          refine sv (o_mv rfl) rfl ?_
          refine sg rfl (decide_eq_true hk0) (o_mv rfl) rfl ?_
          refine sg rfl (decide_eq_true hk0) (o_slen Tryd.underlying9 rfl) rfl ?_
          refine sg rfl (decide_eq_true hk0) (o_gtr rfl rfl) rfl ?_
          refine sv (o_pickT (decide_eq_true hk0) rfl rfl) rfl ?_
          refine sv (o_mv rfl) rfl ?_
          refine sg rfl (decide_eq_true hk1) (o_mv rfl) rfl ?_
          refine sg rfl (decide_eq_true hk1) (o_ssto (n := 8) Tryd.underlying9 rfl rfl (by omega)) rfl ?_
          refine sg rfl (decide_eq_true hk1) (o_seq rfl rfl) rfl ?_
          refine sv (o_pickT (decide_eq_true hk1) rfl rfl) rfl ?_
          refine sv (o_mv rfl) rfl ?_
          refine sg rfl (decide_eq_true hk2) (o_mv rfl) rfl ?_
          refine sg rfl (decide_eq_true hk2) (o_ssfrom (n := 8) Tryd.underlying9 rfl rfl (by omega)) rfl ?_
          refine sgc rfl (decide_eq_true hk2) (o_call ent66 rfl) (c_ofq _ (s.drop 8) [97, 65, 48] [95] _ q_key (by simp only [List.length_drop]; omega) (by simp) (by simp)) rfl fun v_ w1 h_ => ?_
          obtain ⟨rfl, E_⟩ := h_
          replace E := E.then E_
          refine sv (o_pickT (decide_eq_true hk2) rfl rfl) rfl ?_
          refine sv (o_as rfl) rfl ?_
          refine l_nil ?_
          refine e_K (hK2 _ _ _ _ ?_)
          refine c_ret ?_
          exact ret1 rfl rfl ⟨congrArg Value.bool (by rw [keyB, len_e3]; simp only [decide_eq_true hk0, decide_eq_true hk1, decide_eq_true hk2, hk3, Bool.true_and, Bool.and_true, Bool.false_and, Bool.and_false, Bool.true_or, Bool.or_true, Bool.false_or, Bool.or_false, Bool.not_true, Bool.not_false]), E⟩
        · skip
          refine c_region ?_
          refine sv (o_mv rfl) rfl ?_
          refine sv (o_slen Tryd.underlying9 rfl) rfl ?_
          refine sv (o_leq rfl rfl) rfl ?_
          refine sv (o_mv rfl) rfl ?_
          refine sg rfl (decide_eq_true hk0) (o_mv rfl) rfl ?_
          refine sg rfl (decide_eq_true hk0) (o_slen Tryd.underlying9 rfl) rfl ?_
          refine sg rfl (decide_eq_true hk0) (o_gtr rfl rfl) rfl ?_
          refine sv (o_pickT (decide_eq_true hk0) rfl rfl) rfl ?_
          refine sv (o_mv rfl) rfl ?_
          refine sg rfl (decide_eq_true hk1) (o_mv rfl) rfl ?_
          refine sg rfl (decide_eq_true hk1) (o_ssto (n := 8) Tryd.underlying9 rfl rfl (by omega)) rfl ?_
          refine sg rfl (decide_eq_true hk1) (o_seq rfl rfl) rfl ?_
          refine sv (o_pickT (decide_eq_true hk1) rfl rfl) rfl ?_
          refine sv (o_mv rfl) rfl ?_
          refine sg rfl (decide_eq_true hk2) (o_mv rfl) rfl ?_
          refine sg rfl (decide_eq_true hk2) (o_ssfrom (n := 8) Tryd.underlying9 rfl rfl (by omega)) rfl ?_
          refine sgc rfl (decide_eq_true hk2) (o_call ent66 rfl) (c_ofq _ (s.drop 8) [97, 65, 48] [95] _ q_key (by simp only [List.length_drop]; omega) (by simp) (by simp)) rfl fun v_ w2 h_ => ?_
          obtain ⟨rfl, E_⟩ := h_
          replace E := E.then E_
          refine sv (o_pickT (decide_eq_true hk2) rfl rfl) rfl ?_
          refine sv (o_as rfl) rfl ?_
          refine l_nil ?_
          refine e_K (hK2 _ _ _ _ ?_)
          refine c_ret ?_
          exact ret1 rfl rfl ⟨congrArg Value.bool (by rw [keyB, len_e3]; simp only [decide_eq_true hk0, decide_eq_true hk1, decide_eq_true hk2, Bool.eq_false_iff.2 hk3, Bool.true_and, Bool.and_true, Bool.false_and, Bool.and_false, Bool.true_or, Bool.or_true, Bool.false_or, Bool.or_false, Bool.not_true, Bool.not_false]), E⟩
      · skip
        refine c_region ?_
        refine sv (o_mv rfl) rfl ?_
        refine sv (o_slen Tryd.underlying9 rfl) rfl ?_
        refine sv (o_leq rfl rfl) rfl ?_
        refine sv (o_mv rfl) rfl ?_
        refine sg rfl (decide_eq_true hk0) (o_mv rfl) rfl ?_
        refine sg rfl (decide_eq_true hk0) (o_slen Tryd.underlying9 rfl) rfl ?_
        refine sg rfl (decide_eq_true hk0) (o_gtr rfl rfl) rfl ?_
        refine sv (o_pickT (decide_eq_true hk0) rfl rfl) rfl ?_
        refine sv (o_mv rfl) rfl ?_
        refine sg rfl (decide_eq_true hk1) (o_mv rfl) rfl ?_
        refine sg rfl (decide_eq_true hk1) (o_ssto (n := 8) Tryd.underlying9 rfl rfl (by omega)) rfl ?_
        refine sg rfl (decide_eq_true hk1) (o_seq rfl rfl) rfl ?_
        refine sv (o_pickT (decide_eq_true hk1) rfl rfl) rfl ?_
        refine sv (o_mv rfl) rfl ?_
        refine sn rfl (fun e_ => absurd ((decide_eq_false hk2).symm.trans e_) (by decide)) rfl ?_
        refine sn rfl (fun e_ => absurd ((decide_eq_false hk2).symm.trans e_) (by decide)) rfl ?_
        refine sn rfl (fun e_ => absurd ((decide_eq_false hk2).symm.trans e_) (by decide)) rfl ?_
        refine sv (o_pickF (decide_eq_false hk2) rfl rfl) rfl ?_
        refine sv (o_as rfl) rfl ?_
        refine l_nil ?_
        refine e_K (hK2 _ _ _ _ ?_)
        refine c_ret ?_
        exact ret1 rfl rfl ⟨congrArg Value.bool (by rw [keyB, len_e3]; simp only [decide_eq_true hk0, decide_eq_true hk1, decide_eq_false hk2, Bool.true_and, Bool.and_true, Bool.false_and, Bool.and_false, Bool.true_or, Bool.or_true, Bool.false_or, Bool.or_false, Bool.not_true, Bool.not_false]), E⟩
    · skip
      have h0 : allB qKey (s.drop 8) = false := by rw [List.drop_eq_nil_of_le (by omega)]; rfl
      refine c_region ?_
      refine sv (o_mv rfl) rfl ?_
      refine sv (o_slen Tryd.underlying9 rfl) rfl ?_
      refine sv (o_leq rfl rfl) rfl ?_
      refine sv (o_mv rfl) rfl ?_
      refine sg rfl (decide_eq_true hk0) (o_mv rfl) rfl ?_
      refine sg rfl (decide_eq_true hk0) (o_slen Tryd.underlying9 rfl) rfl ?_
      refine sg rfl (decide_eq_true hk0) (o_gtr rfl rfl) rfl ?_
      refine sv (o_pickT (decide_eq_true hk0) rfl rfl) rfl ?_
      refine sv (o_mv rfl) rfl ?_
      refine sn rfl (fun e_ => absurd ((decide_eq_false hk1).symm.trans e_) (by decide)) rfl ?_
      refine sn rfl (fun e_ => absurd ((decide_eq_false hk1).symm.trans e_) (by decide)) rfl ?_
      refine sn rfl (fun e_ => absurd ((decide_eq_false hk1).symm.trans e_) (by decide)) rfl ?_
      refine sv (o_pickF (decide_eq_false hk1) rfl rfl) rfl ?_
      refine sv (o_mv rfl) rfl ?_
      refine sn rfl (fun e_ => absurd ((rfl).symm.trans e_) (by decide)) rfl ?_
      refine sn rfl (fun e_ => absurd ((rfl).symm.trans e_) (by decide)) rfl ?_
      refine sn rfl (fun e_ => absurd ((rfl).symm.trans e_) (by decide)) rfl ?_
      refine sv (o_pickF (rfl) rfl rfl) rfl ?_
      refine sv (o_as rfl) rfl ?_
      refine l_nil ?_
      refine e_K (hK2 _ _ _ _ ?_)
      refine c_ret ?_
      exact ret1 rfl rfl ⟨congrArg Value.bool (by rw [keyB, len_e3]; simp only [h0, decide_eq_true hk0, decide_eq_false hk1, Bool.true_and, Bool.and_true, Bool.false_and, Bool.and_false, Bool.true_or, Bool.or_true, Bool.false_or, Bool.or_false, Bool.not_true, Bool.not_false]), E⟩
  · skip
    refine c_region ?_
    refine sv (o_mv rfl) rfl ?_
    refine sv (o_slen Tryd.underlying9 rfl) rfl ?_
    refine sv (o_leq rfl rfl) rfl ?_
    refine sv (o_mv rfl) rfl ?_
    refine sn rfl (fun e_ => absurd ((decide_eq_false hk0).symm.trans e_) (by decide)) rfl ?_
    refine sn rfl (fun e_ => absurd ((decide_eq_false hk0).symm.trans e_) (by decide)) rfl ?_
    refine sn rfl (fun e_ => absurd ((decide_eq_false hk0).symm.trans e_) (by decide)) rfl ?_
    refine sv (o_pickF (decide_eq_false hk0) rfl rfl) rfl ?_
    refine sv (o_mv rfl) rfl ?_
    refine sn rfl (fun e_ => absurd ((rfl).symm.trans e_) (by decide)) rfl ?_
    refine sn rfl (fun e_ => absurd ((rfl).symm.trans e_) (by decide)) rfl ?_
    refine sn rfl (fun e_ => absurd ((rfl).symm.trans e_) (by decide)) rfl ?_
    refine sv (o_pickF (rfl) rfl rfl) rfl ?_
    refine sv (o_mv rfl) rfl ?_
    refine sn rfl (fun e_ => absurd ((rfl).symm.trans e_) (by decide)) rfl ?_
    refine sn rfl (fun e_ => absurd ((rfl).symm.trans e_) (by decide)) rfl ?_
    refine sn rfl (fun e_ => absurd ((rfl).symm.trans e_) (by decide)) rfl ?_
    refine sv (o_pickF (rfl) rfl rfl) rfl ?_
    refine sv (o_as rfl) rfl ?_
    refine l_nil ?_
    refine e_K (hK2 _ _ _ _ ?_)
    refine c_ret ?_
    exact ret1 rfl rfl ⟨congrArg Value.bool (by rw [keyB, len_e3]; simp only [decide_eq_false hk0, Bool.true_and, Bool.and_true, Bool.false_and, Bool.and_false, Bool.true_or, Bool.or_true, Bool.false_or, Bool.or_false, Bool.not_true, Bool.not_false]), E⟩
end Go.Proofs.YtkhbnhdlelmbnaaDoor.V
