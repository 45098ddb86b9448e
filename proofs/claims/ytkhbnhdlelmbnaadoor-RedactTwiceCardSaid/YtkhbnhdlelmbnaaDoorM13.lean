/-
  A part of the proof: names with a sign; keys; kinds of bytes, as the document tells them. No condition of its own.
-/
import Derived.Test.YtkhbnhdlelmbnaaDoorM9
import Derived.Test.YtkhbnhdlelmbnaaDoorM12
set_option linter.unusedVariables false
set_option linter.unusedSimpArgs false
set_option maxRecDepth 10000
namespace Go.Proofs.YtkhbnhdlelmbnaaDoor.V
open Go Go.Proofs
theorem ent95 : Ent Tryd.prog 95 := Ent.of Tryd.func95 (by kernel_rfl) (by kernel_rfl)
theorem ent94 : Ent Tryd.prog 94 := Ent.of Tryd.func94 (by kernel_rfl) (by kernel_rfl)
theorem ent79 : Ent Tryd.prog 79 := Ent.of Tryd.func79 (by kernel_rfl) (by kernel_rfl)
theorem ent56 : Ent Tryd.prog 56 := Ent.of Tryd.func56 (by kernel_rfl) (by kernel_rfl)
theorem ent58 : Ent Tryd.prog 58 := Ent.of Tryd.func58 (by kernel_rfl) (by kernel_rfl)
theorem ent60 : Ent Tryd.prog 60 := Ent.of Tryd.func60 (by kernel_rfl) (by kernel_rfl)
theorem ent57 : Ent Tryd.prog 57 := Ent.of Tryd.func57 (by kernel_rfl) (by kernel_rfl)
theorem c_small (w : World) (c : Nat) : Calls Tryd.prog 56 [.int .i32 (c : Int)].toArray w (Ret fun u w' => u = .bool (kS c) ∧ Mod [] w w') := by
  refine enter Tryd.func56 rfl rfl rfl (l := [(0, _)]) ⟨rfl, trivial⟩ ?_
  have E := Mod.refl [] w
  refine c_seq fun K1 hK1 => ?_
  refine c_region ?_
  refine sv (o_as rfl) rfl ?_
  refine l_nil ?_
  refine e_K (hK1 _ _ _ _ ?_)
  refine c_seq fun K2 hK2 => ?_
  by_cases hs1_0 : (c : Int) ≥ 97
  · skip
    by_cases hs1_1 : (c : Int) ≤ 122
    · skip
      refine c_region ?_
      refine sv (o_mv rfl) rfl ?_
      refine sv (o_geq rfl rfl) rfl ?_
      refine sv (o_mv rfl) rfl ?_
      refine sg rfl (decide_eq_true hs1_0) (o_mv rfl) rfl ?_
      refine sg rfl (decide_eq_true hs1_0) (o_leq rfl rfl) rfl ?_
      refine sv (o_pickT (decide_eq_true hs1_0) rfl rfl) rfl ?_
      refine sv (o_as rfl) rfl ?_
      refine l_nil ?_
      refine e_K (hK2 _ _ _ _ ?_)
      refine c_ret ?_
      exact ret1 rfl rfl ⟨congrArg Value.bool (by rw [Bool.eq_iff_iff]; simp [kS]; omega), E⟩
    · skip
      refine c_region ?_
      refine sv (o_mv rfl) rfl ?_
      refine sv (o_geq rfl rfl) rfl ?_
      refine sv (o_mv rfl) rfl ?_
      refine sg rfl (decide_eq_true hs1_0) (o_mv rfl) rfl ?_
      refine sg rfl (decide_eq_true hs1_0) (o_leq rfl rfl) rfl ?_
      refine sv (o_pickT (decide_eq_true hs1_0) rfl rfl) rfl ?_
      refine sv (o_as rfl) rfl ?_
      refine l_nil ?_
      refine e_K (hK2 _ _ _ _ ?_)
      refine c_ret ?_
      exact ret1 rfl rfl ⟨congrArg Value.bool (by rw [Bool.eq_iff_iff]; simp [kS]; omega), E⟩
  · skip
    refine c_region ?_
    refine sv (o_mv rfl) rfl ?_
    refine sv (o_geq rfl rfl) rfl ?_
    refine sv (o_mv rfl) rfl ?_
    refine sn rfl (fun e_ => absurd ((decide_eq_false hs1_0).symm.trans e_) (by decide)) rfl ?_
    refine sn rfl (fun e_ => absurd ((decide_eq_false hs1_0).symm.trans e_) (by decide)) rfl ?_
    refine sv (o_pickF (decide_eq_false hs1_0) rfl rfl) rfl ?_
    refine sv (o_as rfl) rfl ?_
    refine l_nil ?_
    refine e_K (hK2 _ _ _ _ ?_)
    refine c_ret ?_
    exact ret1 rfl rfl ⟨congrArg Value.bool (by rw [Bool.eq_iff_iff]; simp [kS]; omega), E⟩

theorem c_kgreat (w : World) (c : Nat) : Calls Tryd.prog 57 [.int .i32 (c : Int)].toArray w (Ret fun u w' => u = .bool (kG c) ∧ Mod [] w w') := by
  refine enter Tryd.func57 rfl rfl rfl (l := [(0, _)]) ⟨rfl, trivial⟩ ?_
  have E := Mod.refl [] w
  refine c_seq fun K1 hK1 => ?_
  refine c_region ?_
  refine sv (o_as rfl) rfl ?_
  refine l_nil ?_
  refine e_K (hK1 _ _ _ _ ?_)
  refine c_seq fun K2 hK2 => ?_
  by_cases hs1_0 : (c : Int) ≥ 65
  · skip
    by_cases hs1_1 : (c : Int) ≤ 90
    · skip
      refine c_region ?_
      refine sv (o_mv rfl) rfl ?_
      refine sv (o_geq rfl rfl) rfl ?_
      refine sv (o_mv rfl) rfl ?_
      refine sg rfl (decide_eq_true hs1_0) (o_mv rfl) rfl ?_
      refine sg rfl (decide_eq_true hs1_0) (o_leq rfl rfl) rfl ?_
      refine sv (o_pickT (decide_eq_true hs1_0) rfl rfl) rfl ?_
      refine sv (o_as rfl) rfl ?_
      refine l_nil ?_
      refine e_K (hK2 _ _ _ _ ?_)
      refine c_ret ?_
      exact ret1 rfl rfl ⟨congrArg Value.bool (by rw [Bool.eq_iff_iff]; simp [kG]; omega), E⟩
    · skip
      refine c_region ?_
      refine sv (o_mv rfl) rfl ?_
      refine sv (o_geq rfl rfl) rfl ?_
      refine sv (o_mv rfl) rfl ?_
      refine sg rfl (decide_eq_true hs1_0) (o_mv rfl) rfl ?_
      refine sg rfl (decide_eq_true hs1_0) (o_leq rfl rfl) rfl ?_
      refine sv (o_pickT (decide_eq_true hs1_0) rfl rfl) rfl ?_
      refine sv (o_as rfl) rfl ?_
      refine l_nil ?_
      refine e_K (hK2 _ _ _ _ ?_)
      refine c_ret ?_
      exact ret1 rfl rfl ⟨congrArg Value.bool (by rw [Bool.eq_iff_iff]; simp [kG]; omega), E⟩
  · skip
    refine c_region ?_
    refine sv (o_mv rfl) rfl ?_
    refine sv (o_geq rfl rfl) rfl ?_
    refine sv (o_mv rfl) rfl ?_
    refine sn rfl (fun e_ => absurd ((decide_eq_false hs1_0).symm.trans e_) (by decide)) rfl ?_
    refine sn rfl (fun e_ => absurd ((decide_eq_false hs1_0).symm.trans e_) (by decide)) rfl ?_
    refine sv (o_pickF (decide_eq_false hs1_0) rfl rfl) rfl ?_
    refine sv (o_as rfl) rfl ?_
    refine l_nil ?_
    refine e_K (hK2 _ _ _ _ ?_)
    refine c_ret ?_
    exact ret1 rfl rfl ⟨congrArg Value.bool (by rw [Bool.eq_iff_iff]; simp [kG]; omega), E⟩

theorem c_digit (w : World) (c : Nat) : Calls Tryd.prog 58 [.int .i32 (c : Int)].toArray w (Ret fun u w' => u = .bool (kD c) ∧ Mod [] w w') := by
  refine enter Tryd.func58 rfl rfl rfl (l := [(0, _)]) ⟨rfl, trivial⟩ ?_
  have E := Mod.refl [] w
  refine c_seq fun K1 hK1 => ?_
  refine c_region ?_
  refine sv (o_as rfl) rfl ?_
  refine l_nil ?_
  refine e_K (hK1 _ _ _ _ ?_)
  refine c_seq fun K2 hK2 => ?_
  by_cases hs1_0 : (c : Int) ≥ 48
  · skip
    by_cases hs1_1 : (c : Int) ≤ 57
    · skip
      refine c_region ?_
      refine sv (o_mv rfl) rfl ?_
      refine sv (o_geq rfl rfl) rfl ?_
      refine sv (o_mv rfl) rfl ?_
      refine sg rfl (decide_eq_true hs1_0) (o_mv rfl) rfl ?_
      refine sg rfl (decide_eq_true hs1_0) (o_leq rfl rfl) rfl ?_
      refine sv (o_pickT (decide_eq_true hs1_0) rfl rfl) rfl ?_
      refine sv (o_as rfl) rfl ?_
      refine l_nil ?_
      refine e_K (hK2 _ _ _ _ ?_)
      refine c_ret ?_
      exact ret1 rfl rfl ⟨congrArg Value.bool (by rw [Bool.eq_iff_iff]; simp [kD]; omega), E⟩
    · skip
      refine c_region ?_
      refine sv (o_mv rfl) rfl ?_
      refine sv (o_geq rfl rfl) rfl ?_
      refine sv (o_mv rfl) rfl ?_
      refine sg rfl (decide_eq_true hs1_0) (o_mv rfl) rfl ?_
      refine sg rfl (decide_eq_true hs1_0) (o_leq rfl rfl) rfl ?_
      refine sv (o_pickT (decide_eq_true hs1_0) rfl rfl) rfl ?_
      refine sv (o_as rfl) rfl ?_
      refine l_nil ?_
      refine e_K (hK2 _ _ _ _ ?_)
      refine c_ret ?_
      exact ret1 rfl rfl ⟨congrArg Value.bool (by rw [Bool.eq_iff_iff]; simp [kD]; omega), E⟩
  · skip
    refine c_region ?_
    refine sv (o_mv rfl) rfl ?_
    refine sv (o_geq rfl rfl) rfl ?_
    refine sv (o_mv rfl) rfl ?_
    refine sn rfl (fun e_ => absurd ((decide_eq_false hs1_0).symm.trans e_) (by decide)) rfl ?_
    refine sn rfl (fun e_ => absurd ((decide_eq_false hs1_0).symm.trans e_) (by decide)) rfl ?_
    refine sv (o_pickF (decide_eq_false hs1_0) rfl rfl) rfl ?_
    refine sv (o_as rfl) rfl ?_
    refine l_nil ?_
    refine e_K (hK2 _ _ _ _ ?_)
    refine c_ret ?_
    exact ret1 rfl rfl ⟨congrArg Value.bool (by rw [Bool.eq_iff_iff]; simp [kD]; omega), E⟩

theorem c_validr (w : World) (c : Nat) (h1 : c ≤ 1114111) (h2 : ¬ (55296 ≤ c ∧ c ≤ 57343)) : Calls Tryd.prog 95 [.int .i32 (c : Int)].toArray w (Ret fun u w' => u = .bool true ∧ Mod [] w w') := by
  refine enter Tryd.func95 rfl rfl rfl (l := [(0, _)]) ⟨rfl, trivial⟩ ?_
  have E := Mod.refl [] w
  have hc0 : (0 : Int) ≤ (c : Int) := by omega
  refine c_seq fun K1 hK1 => ?_
  refine c_region ?_
  refine sv (o_as rfl) rfl ?_
  refine l_nil ?_
  refine e_K (hK1 _ _ _ _ ?_)
  refine c_seq fun K2 hK2 => ?_
  refine c_block ?_
  refine c_seq fun K3 hK3 => ?_
  by_cases hs1_1 : (c : Int) < 55296
  · skip
    refine c_region ?_
    refine sv (o_mv rfl) rfl ?_
    refine sv (o_leq rfl rfl) rfl ?_
    refine sv (o_mv rfl) rfl ?_
    refine sg rfl (decide_eq_true hc0) (o_mv rfl) rfl ?_
    refine sg rfl (decide_eq_true hc0) (o_lss rfl rfl) rfl ?_
    refine sv (o_pickT (decide_eq_true hc0) rfl rfl) rfl ?_
    refine sv (o_as rfl) rfl ?_
    refine l_nil ?_
    refine e_K (hK3 _ _ _ _ ?_)
    refine c_if rfl (fun h3 => ?_) (fun h3 => ?_)
    · skip
      refine c_seq fun K4 hK4 => ?_
      refine c_region ?_
      refine sv (o_as rfl) rfl ?_
      refine l_nil ?_
      refine e_K (hK4 _ _ _ _ ?_)
      refine c_ret ?_
      refine e_in (by simp) ?_
      refine e_then (by simp) ?_
      exact ret1 rfl rfl ⟨rfl, E⟩
    · skip
      have hgt : (57343 : Int) < (c : Int) := by omega
      have hle : (c : Int) ≤ 1114111 := by omega
      refine c_seq fun K5 hK5 => ?_
      refine c_region ?_
      refine sv (o_mv rfl) rfl ?_
      refine sv (o_lss rfl rfl) rfl ?_
      refine sv (o_mv rfl) rfl ?_
      refine sg rfl (decide_eq_true hgt) (o_mv rfl) rfl ?_
      refine sg rfl (decide_eq_true hgt) (o_leq rfl rfl) rfl ?_
      refine sv (o_pickT (decide_eq_true hgt) rfl rfl) rfl ?_
      refine sv (o_as rfl) rfl ?_
      refine l_nil ?_
      refine e_K (hK5 _ _ _ _ ?_)
      refine c_if rfl (fun h10 => ?_) (fun h10 => absurd hle h10)
      refine c_seq fun K6 hK6 => ?_
      refine c_region ?_
      refine sv (o_as rfl) rfl ?_
      refine l_nil ?_
      refine e_K (hK6 _ _ _ _ ?_)
      refine c_ret ?_
      refine e_in (by simp) ?_
      refine e_then (by simp) ?_
      exact ret1 rfl rfl ⟨rfl, E⟩
  · skip
    refine c_region ?_
    refine sv (o_mv rfl) rfl ?_
    refine sv (o_leq rfl rfl) rfl ?_
    refine sv (o_mv rfl) rfl ?_
    refine sg rfl (decide_eq_true hc0) (o_mv rfl) rfl ?_
    refine sg rfl (decide_eq_true hc0) (o_lss rfl rfl) rfl ?_
    refine sv (o_pickT (decide_eq_true hc0) rfl rfl) rfl ?_
    refine sv (o_as rfl) rfl ?_
    refine l_nil ?_
    refine e_K (hK3 _ _ _ _ ?_)
    refine c_if rfl (fun h3 => ?_) (fun h3 => ?_)
    · skip
      refine c_seq fun K7 hK7 => ?_
      refine c_region ?_
      refine sv (o_as rfl) rfl ?_
      refine l_nil ?_
      refine e_K (hK7 _ _ _ _ ?_)
      refine c_ret ?_
      refine e_in (by simp) ?_
      refine e_then (by simp) ?_
      exact ret1 rfl rfl ⟨rfl, E⟩
    · skip
      have hgt : (57343 : Int) < (c : Int) := by omega
      have hle : (c : Int) ≤ 1114111 := by omega
      refine c_seq fun K8 hK8 => ?_
      refine c_region ?_
      refine sv (o_mv rfl) rfl ?_
      refine sv (o_lss rfl rfl) rfl ?_
      refine sv (o_mv rfl) rfl ?_
      refine sg rfl (decide_eq_true hgt) (o_mv rfl) rfl ?_
      refine sg rfl (decide_eq_true hgt) (o_leq rfl rfl) rfl ?_
      refine sv (o_pickT (decide_eq_true hgt) rfl rfl) rfl ?_
      refine sv (o_as rfl) rfl ?_
      refine l_nil ?_
      refine e_K (hK8 _ _ _ _ ?_)
      refine c_if rfl (fun h10 => ?_) (fun h10 => absurd hle h10)
      refine c_seq fun K9 hK9 => ?_
      refine c_region ?_
      refine sv (o_as rfl) rfl ?_
      refine l_nil ?_
      refine e_K (hK9 _ _ _ _ ?_)
      refine c_ret ?_
      refine e_in (by simp) ?_
      refine e_then (by simp) ?_
      exact ret1 rfl rfl ⟨rfl, E⟩

theorem c_irune_hi (w : World) (s : Str) (c : Nat) (hs : ∀ x ∈ s, x.toNat < 128) (hl : 4 ≤ s.length) (hl2 : s.length ≤ 1000) (h1 : c ≤ 1114111) (h2 : ¬ (55296 ≤ c ∧ c ≤ 57343)) (h : 128 ≤ c) : Calls Tryd.prog 79 [S s, .int .i32 (c : Int)].toArray w (Ret fun u w' => u = .int .i64 (-1) ∧ Mod [] w w') := by
  refine enter Tryd.func79 rfl rfl rfl (l := [(0, _), (1, _)]) ⟨rfl, rfl, trivial⟩ ?_
  have E := Mod.refl [] w
  have hc0 : (0 : Int) ≤ (c : Int) := by omega
  have hc1 : ¬ (c : Int) < 128 := by omega
  obtain ⟨rs, hrs, hr2, hr4, bL, hbL, hbL2⟩ := enc_last h1 h2 h
  obtain ⟨b1, hb1⟩ : ∃ b1, s[rs.length - 1]? = some b1 := ⟨_, List.getElem?_eq_getElem (by omega)⟩
  have hb1s := hs b1 (List.mem_of_getElem? hb1)
  have hib : Lib.indexByte (s.drop (rs.length - 1 + 1)) bL = -1 := indexByte_none (fun x hx => hs x (List.mem_of_mem_drop hx)) hbL2
  refine c_seq fun K1 hK1 => ?_
  refine c_region ?_
  refine sv (o_as rfl) rfl ?_
  refine l_nil ?_
  refine e_K (hK1 _ _ _ _ ?_)
  refine c_block ?_
  refine c_seq fun K2 hK2 => ?_
  refine c_region ?_
  refine sv (o_mv rfl) rfl ?_
  refine sv (o_leq rfl rfl) rfl ?_
  refine sv (o_mv rfl) rfl ?_
  refine sg rfl (decide_eq_true hc0) (o_mv rfl) rfl ?_
  refine sg rfl (decide_eq_true hc0) (o_lss rfl rfl) rfl ?_
  refine sv (o_pickT (decide_eq_true hc0) rfl rfl) rfl ?_
  refine sv (o_as rfl) rfl ?_
  refine l_nil ?_
  refine e_K (hK2 _ _ _ _ ?_)
  refine c_if rfl (fun h160 => absurd h160 hc1) (fun h160 => ?_)
  refine c_seq fun K3 hK3 => ?_
  refine c_region ?_
  refine sv (o_mv rfl) rfl ?_
  refine sv (o_eql rfl rfl) rfl ?_
  refine sv (o_as rfl) rfl ?_
  refine l_nil ?_
  refine e_K (hK3 _ _ _ _ ?_)
  refine c_if rfl (fun h171 => ?_) (fun h171 => ?_)
  · skip
    refine c_seq fun K4 hK4 => ?_
    refine c_seq fun K5 hK5 => ?_
    refine c_region ?_
    refine sv (o_mv rfl) rfl ?_
    refine s_range Tryd.underlying9 rfl rfl fun gi w1 IT hgi EI => ?_
    have Lgi : w.heap.size ≤ gi := by have := E.size; omega
    replace E := E.then EI
    refine l_nil ?_
    refine e_K (hK5 _ _ _ _ ?_)
    refine c_block ?_
    refine c_loop (σ := Nat) (fun p => [(0, S s), (1, .int .i32 (c : Int)), (175, .pointer (some ⟨gi, 0, none⟩))]) (fun p w1 => p ≤ s.length ∧ It w1 gi s p ∧ Mod [] w w1) (fun p => s.length - p) (0) ⟨rfl, rfl, rfl, trivial⟩ (⟨by omega, IT, E⟩) ?_
    rintro p w2 ⟨hp, IT, E⟩
    refine c_seq fun K6 hK6 => ?_
    by_cases hplt : p < s.length
    · skip
      obtain ⟨b, hb⟩ : ∃ b, s[p]? = some b := ⟨_, List.getElem?_eq_getElem hplt⟩
      have hbs := hs b (List.mem_of_getElem? hb)
      refine c_region ?_
      refine s_next rfl IT hplt (dec_lt hb hbs) rfl fun w3 IT2 EN hzN => ?_
      replace E := E.trans' EN (fun x hx => .inr (by simp at hx; subst hx; exact Lgi))
      clear IT
      have IT := IT2
      refine sv (o_ext rfl rfl) rfl ?_
      refine l_nil ?_
      refine e_K (hK6 _ _ _ _ ?_)
      refine c_seq fun K7 hK7 => ?_
      refine c_cond rfl (fun h177 => ?_) (fun h177 => ?_)
      · skip
        skip
        refine c_skip ?_
        refine e_K (hK7 _ _ _ _ ?_)
        refine c_block ?_
        refine c_seq fun K8 hK8 => ?_
        refine c_region ?_
        refine sv (o_ext rfl rfl) rfl ?_
        refine sv (o_ext rfl rfl) rfl ?_
        refine sv (o_as rfl) rfl ?_
        refine sv (o_as rfl) rfl ?_
        refine l_nil ?_
        refine e_K (hK8 _ _ _ _ ?_)
        refine c_seq fun K9 hK9 => ?_
        refine c_region ?_
        refine sv (o_mv rfl) rfl ?_
        refine sv (o_eql rfl rfl) rfl ?_
        refine l_nil ?_
        refine e_K (hK9 _ _ _ _ ?_)
        refine c_if rfl (fun h181 => ?_) (fun h181 => ?_)
        · skip
          exact absurd h181 (by omega)
        · skip
          refine c_skip ?_
          refine e_in (by simp) ?_
          exact e_round (σ := Nat) (s := p) (p + 1) ⟨rfl, rfl, rfl, trivial⟩ ⟨by omega, IT, E⟩ (by omega)
      · skip
        cases h177
    · skip
      have hs_end := hplt
      refine c_region ?_
      refine s_next_end rfl IT hs_end rfl ?_
      refine sv (o_ext rfl rfl) rfl ?_
      refine l_nil ?_
      refine e_K (hK6 _ _ _ _ ?_)
      refine c_seq fun K10 hK10 => ?_
      refine c_cond rfl (fun h177 => ?_) (fun h177 => ?_)
      · skip
        cases h177
      · skip
        skip
        refine c_exit ?_
        refine e_then (by simp) ?_
        refine e_then (by simp) ?_
        refine e_hit ?_
        refine e_K (hK4 _ _ _ _ ?_)
        refine c_seq fun K11 hK11 => ?_
        refine c_region ?_
        refine sv (o_as rfl) rfl ?_
        refine l_nil ?_
        refine e_K (hK11 _ _ _ _ ?_)
        refine c_ret ?_
        refine e_in (by simp) ?_
        exact ret1 rfl rfl ⟨rfl, E⟩
  · skip
    refine c_seq fun K12 hK12 => ?_
    refine c_region ?_
    refine sv (o_mv rfl) rfl ?_
    refine sc (o_call ent95 rfl) (c_validr _ c h1 h2) rfl fun v_ w4 h_ => ?_
    obtain ⟨rfl, E_⟩ := h_
    replace E := E.then E_
    refine sv (o_not rfl) rfl ?_
    refine sv (o_as rfl) rfl ?_
    refine l_nil ?_
    refine e_K (hK12 _ _ _ _ ?_)
    refine c_cond rfl (fun h183 => ?_) (fun h183 => ?_)
    · skip
      cases h183
    · skip
      refine c_scope ?_
      refine c_seq fun K13 hK13 => ?_
      refine c_region ?_
      refine sv (o_mv rfl) rfl ?_
      refine sv ((o_r2s Tryd.underlying21 Tryd.underlying9 rfl).to (v' := S rs) (by rw [hrs])) rfl ?_
      refine sv (o_as rfl) rfl ?_
      refine l_nil ?_
      refine e_K (hK13 _ _ _ _ ?_)
      refine c_seq fun K14 hK14 => ?_
      refine c_region ?_
      refine sv (o_mv rfl) rfl ?_
      refine sv (o_slen Tryd.underlying9 rfl) rfl ?_
      refine sv (o_subE (r := ((rs.length - 1 : Nat) : Int)) rfl rfl (by rw [wrap64_in _ (by omega)]; omega)) rfl ?_
      refine sv (o_as rfl) rfl ?_
      refine l_nil ?_
      refine e_K (hK14 _ _ _ _ ?_)
      refine c_seq fun K15 hK15 => ?_
      refine c_region ?_
      refine sv (o_mv rfl) rfl ?_
      refine sv (o_as rfl) rfl ?_
      refine l_nil ?_
      refine e_K (hK15 _ _ _ _ ?_)
      refine c_seq fun K16 hK16 => ?_
      refine c_region ?_
      refine sv (o_as rfl) rfl ?_
      refine l_nil ?_
      refine e_K (hK16 _ _ _ _ ?_)
      refine c_seq fun K17 hK17 => ?_
      refine c_block ?_
      refine c_loop (σ := Unit) (fun _ => [(0, S s), (7, S rs), (8, .int .i64 ((rs.length - 1 : Nat) : Int)), (9, .int .i64 ((rs.length - 1 : Nat) : Int))]) (fun _ w1 => Mod [] w w1) (fun _ => 0) (()) ⟨rfl, rfl, rfl, rfl, trivial⟩ (E) ?_
      rintro _ w5 E
      refine c_seq fun K18 hK18 => ?_
      refine c_seq fun K19 hK19 => ?_
      refine c_region ?_
      refine sv (o_mv rfl) rfl ?_
      refine sv (o_mv rfl) rfl ?_
      refine sv (o_slen Tryd.underlying9 rfl) rfl ?_
      refine sv (o_lss rfl rfl) rfl ?_
      refine l_nil ?_
      refine e_K (hK19 _ _ _ _ ?_)
      refine c_if rfl (fun h26 => ?_) (fun h26 => ?_)
      · skip
        refine c_skip ?_
        refine e_K (hK18 _ _ _ _ ?_)
        refine c_block ?_
        refine c_scope ?_
        refine c_seq fun K20 hK20 => ?_
        refine c_seq fun K21 hK21 => ?_
        refine c_draw wide (by kernel_rfl) ?_
        refine tv (fun w_ E_ => (o_mv rfl)) rfl rfl ?_
        refine tv (fun w_ E_ => (o_mv rfl)) rfl rfl ?_
        refine tv (fun w_ E_ => (o_sidx Tryd.underlying9 rfl rfl (by omega) (by rw [Int.toNat_natCast]; exact hb1))) rfl rfl ?_
        refine tv (fun w_ E_ => (o_mv rfl)) rfl rfl ?_
        refine tv (fun w_ E_ => (o_mv rfl)) rfl rfl ?_
        refine tv (fun w_ E_ => (o_sidx Tryd.underlying9 rfl rfl (by omega) (by rw [Int.toNat_natCast]; exact hbL))) rfl rfl ?_
        refine tv (fun w_ E_ => (o_neq rfl rfl)) rfl rfl ?_
        refine tw_nil rfl fun w6 E_ => ?_
        replace E := E.then E_
        refine e_K (hK21 _ _ _ _ ?_)
        refine c_if rfl (fun h33 => ?_) (fun h33 => ?_)
        · skip
          refine c_seq fun K22 hK22 => ?_
          refine c_draw wide (by kernel_rfl) ?_
          refine tv (fun w_ E_ => (o_mv rfl)) rfl rfl ?_
          refine tv (fun w_ E_ => (o_mv rfl)) rfl rfl ?_
          refine tv (fun w_ E_ => (o_addE (r := ((rs.length - 1 + 1 : Nat) : Int)) rfl rfl (by rw [wrap64_in _ (by omega)]; omega))) rfl rfl ?_
          refine tv (fun w_ E_ => (o_ssfrom Tryd.underlying9 rfl rfl (by omega))) rfl rfl ?_
          refine tv (fun w_ E_ => (o_mv rfl)) rfl rfl ?_
          refine tv (fun w_ E_ => (o_mv rfl)) rfl rfl ?_
          refine tv (fun w_ E_ => (o_sidx Tryd.underlying9 rfl rfl (by omega) (by rw [Int.toNat_natCast]; exact hbL))) rfl rfl ?_
          refine tc (fun w_ E_ => o_call ent94 rfl) (fun w_ E_ => c_ib _ (s.drop (rs.length - 1 + 1)) bL) rfl rfl ?_
          refine tv (fun w_ E_ => (o_as rfl)) rfl rfl ?_
          refine tw_nil rfl fun w7 E_ => ?_
          replace E := E.then E_
          refine e_K (hK22 _ _ _ _ ?_)
          refine c_seq fun K23 hK23 => ?_
          refine c_seq fun K24 hK24 => ?_
          refine c_region ?_
          refine sv (o_mv rfl) rfl ?_
          refine sv (o_lss rfl rfl) rfl ?_
          refine l_nil ?_
          refine e_K (hK24 _ _ _ _ ?_)
          refine c_if rfl (fun h43 => ?_) (fun h43 => ?_)
          · skip
            refine c_seq fun K25 hK25 => ?_
            refine c_region ?_
            refine sv (o_as rfl) rfl ?_
            refine l_nil ?_
            refine e_K (hK25 _ _ _ _ ?_)
            refine c_ret ?_
            refine e_then (by simp) ?_
            refine e_then (by simp) ?_
            refine e_scope (by simp) ?_
            refine e_in (by simp) ?_
            refine e_then (by simp) ?_
            refine e_in (by simp) ?_
            refine e_then (by simp) ?_
            refine e_scope (by simp) ?_
            refine e_in (by simp) ?_
            exact ret1 rfl rfl ⟨rfl, E⟩
          · skip
            exact absurd (by rw [hib]; decide) h43
        · skip
          exact absurd (by omega) h33
      · skip
        exact absurd (by omega) h26

theorem c_crune_hi (w : World) (s : Str) (c : Nat) (hs : ∀ x ∈ s, x.toNat < 128) (hl : 4 ≤ s.length) (hl2 : s.length ≤ 1000) (h1 : c ≤ 1114111) (h2 : ¬ (55296 ≤ c ∧ c ≤ 57343)) (h : 128 ≤ c) : Calls Tryd.prog 60 [S s, .int .i32 (c : Int)].toArray w (Ret fun u w' => u = .bool false ∧ Mod [] w w') := by
  refine enter Tryd.func60 rfl rfl rfl (l := [(0, _), (1, _)]) ⟨rfl, rfl, trivial⟩ ?_
  have E := Mod.refl [] w
  refine c_seq fun K1 hK1 => ?_
  refine c_region ?_
  refine sv (o_as rfl) rfl ?_
  refine l_nil ?_
  refine e_K (hK1 _ _ _ _ ?_)
  refine c_seq fun K2 hK2 => ?_
  refine c_region ?_
  refine sv (o_mv rfl) rfl ?_
  refine sv (o_mv rfl) rfl ?_
  refine sc (o_call ent79 rfl) (c_irune_hi _ s c hs hl hl2 h1 h2 h) rfl fun v_ w1 h_ => ?_
  obtain ⟨rfl, E_⟩ := h_
  replace E := E.then E_
  refine sv (o_geq rfl rfl) rfl ?_
  refine sv (o_as rfl) rfl ?_
  refine l_nil ?_
  refine e_K (hK2 _ _ _ _ ?_)
  refine c_ret ?_
  exact ret1 rfl rfl ⟨rfl, E⟩

theorem c_crune (w : World) (c : Nat) (h1 : c ≤ 1114111) (h2 : ¬ (55296 ≤ c ∧ c ≤ 57343)) : Calls Tryd.prog 60 [S userS, .int .i32 (c : Int)].toArray w (Ret fun u w' => u = .bool (userS.any fun b => decide (b.toNat = c)) ∧ Mod [] w w') := by
  rcases Nat.lt_or_ge c 128 with h | h
  · exact c_crune_lo w userS c h
  · refine (c_crune_hi w userS c (by decide) (by decide) (by decide) h1 h2 h).mono fun e w' he => ?_
    cases e with
    | returned v =>
      obtain ⟨rfl, k⟩ := he
      refine ⟨?_, k⟩
      congr 1
      symm
      rw [List.any_eq_false]
      intro b hb
      have : b.toNat < 128 := (by decide : ∀ b ∈ userS, b.toNat < 128) b hb
      simp
      omega
    | panicked c => exact he.elim
    | outgrown => exact he.elim

theorem c_kServer (w : World) (c : Nat) (h1 : c ≤ 1114111) (h2 : ¬ (55296 ≤ c ∧ c ≤ 57343)) : Calls Tryd.prog 78 [.int .i32 (c : Int)].toArray w (Ret fun u w' => u = .bool (qServer c) ∧ Mod [] w w') := by
  refine enter Tryd.func78 rfl rfl rfl (l := [(0, _)]) ⟨rfl, trivial⟩ ?_
  have E := Mod.refl [] w
  refine c_seq fun K1 hK1 => ?_
  refine c_region ?_
  refine sv (o_as rfl) rfl ?_
  refine l_nil ?_
  refine e_K (hK1 _ _ _ _ ?_)
  refine c_seq fun K2 hK2 => ?_
  rcases hk0 : kS c with _ | _
  · skip
    rcases hk1 : kD c with _ | _
    · skip
      by_cases hk2 : (c : Int) = 46
      · skip
        refine c_region ?_
        refine sv (o_mv rfl) rfl ?_
        refine sc (o_call ent56 rfl) (c_small _ c) rfl fun v_ w1 h_ => ?_
        obtain ⟨rfl, E_⟩ := h_
        replace E := E.then E_
        refine sv (o_mv rfl) rfl ?_
        refine sg rfl (hk0) (o_mv rfl) rfl ?_
        refine sgc rfl (hk0) (o_call ent58 rfl) (c_digit _ c) rfl fun v_ w2 h_ => ?_
        obtain ⟨rfl, E_⟩ := h_
        replace E := E.then E_
        refine sv (o_pickF (hk0) rfl rfl) rfl ?_
        refine sv (o_mv rfl) rfl ?_
        refine sg rfl (hk1) (o_mv rfl) rfl ?_
        refine sg rfl (hk1) (o_eql rfl rfl) rfl ?_
        refine sv (o_pickF (hk1) rfl rfl) rfl ?_
        refine sv (o_mv rfl) rfl ?_
        refine sn rfl (fun e_ => absurd ((decide_eq_true hk2).symm.trans e_) (by decide)) rfl ?_
        refine sn rfl (fun e_ => absurd ((decide_eq_true hk2).symm.trans e_) (by decide)) rfl ?_
        refine sv (o_pickT (decide_eq_true hk2) rfl rfl) rfl ?_
        refine sv (o_as rfl) rfl ?_
        refine l_nil ?_
        refine e_K (hK2 _ _ _ _ ?_)
        refine c_ret ?_
        exact ret1 rfl rfl ⟨by simp_all [qServer], E⟩
      · skip
        by_cases hk3 : (c : Int) = 45
        · skip
          refine c_region ?_
          refine sv (o_mv rfl) rfl ?_
          refine sc (o_call ent56 rfl) (c_small _ c) rfl fun v_ w3 h_ => ?_
          obtain ⟨rfl, E_⟩ := h_
          replace E := E.then E_
          refine sv (o_mv rfl) rfl ?_
          refine sg rfl (hk0) (o_mv rfl) rfl ?_
          refine sgc rfl (hk0) (o_call ent58 rfl) (c_digit _ c) rfl fun v_ w4 h_ => ?_
          obtain ⟨rfl, E_⟩ := h_
          replace E := E.then E_
          refine sv (o_pickF (hk0) rfl rfl) rfl ?_
          refine sv (o_mv rfl) rfl ?_
          refine sg rfl (hk1) (o_mv rfl) rfl ?_
          refine sg rfl (hk1) (o_eql rfl rfl) rfl ?_
          refine sv (o_pickF (hk1) rfl rfl) rfl ?_
          refine sv (o_mv rfl) rfl ?_
          refine sg rfl (decide_eq_false hk2) (o_mv rfl) rfl ?_
          refine sg rfl (decide_eq_false hk2) (o_eql rfl rfl) rfl ?_
          refine sv (o_pickF (decide_eq_false hk2) rfl rfl) rfl ?_
          refine sv (o_as rfl) rfl ?_
          refine l_nil ?_
          refine e_K (hK2 _ _ _ _ ?_)
          refine c_ret ?_
          exact ret1 rfl rfl ⟨by simp_all [qServer], E⟩
        · skip
          refine c_region ?_
          refine sv (o_mv rfl) rfl ?_
          refine sc (o_call ent56 rfl) (c_small _ c) rfl fun v_ w5 h_ => ?_
          obtain ⟨rfl, E_⟩ := h_
          replace E := E.then E_
          refine sv (o_mv rfl) rfl ?_
          refine sg rfl (hk0) (o_mv rfl) rfl ?_
          refine sgc rfl (hk0) (o_call ent58 rfl) (c_digit _ c) rfl fun v_ w6 h_ => ?_
          obtain ⟨rfl, E_⟩ := h_
          replace E := E.then E_
          refine sv (o_pickF (hk0) rfl rfl) rfl ?_
          refine sv (o_mv rfl) rfl ?_
          refine sg rfl (hk1) (o_mv rfl) rfl ?_
          refine sg rfl (hk1) (o_eql rfl rfl) rfl ?_
          refine sv (o_pickF (hk1) rfl rfl) rfl ?_
          refine sv (o_mv rfl) rfl ?_
          refine sg rfl (decide_eq_false hk2) (o_mv rfl) rfl ?_
          refine sg rfl (decide_eq_false hk2) (o_eql rfl rfl) rfl ?_
          refine sv (o_pickF (decide_eq_false hk2) rfl rfl) rfl ?_
          refine sv (o_as rfl) rfl ?_
          refine l_nil ?_
          refine e_K (hK2 _ _ _ _ ?_)
          refine c_ret ?_
          exact ret1 rfl rfl ⟨by simp_all [qServer], E⟩
    · skip
      refine c_region ?_
      refine sv (o_mv rfl) rfl ?_
      refine sc (o_call ent56 rfl) (c_small _ c) rfl fun v_ w7 h_ => ?_
      obtain ⟨rfl, E_⟩ := h_
      replace E := E.then E_
      refine sv (o_mv rfl) rfl ?_
      refine sg rfl (hk0) (o_mv rfl) rfl ?_
      refine sgc rfl (hk0) (o_call ent58 rfl) (c_digit _ c) rfl fun v_ w8 h_ => ?_
      obtain ⟨rfl, E_⟩ := h_
      replace E := E.then E_
      refine sv (o_pickF (hk0) rfl rfl) rfl ?_
      refine sv (o_mv rfl) rfl ?_
      refine sn rfl (fun e_ => absurd ((hk1).symm.trans e_) (by decide)) rfl ?_
      refine sn rfl (fun e_ => absurd ((hk1).symm.trans e_) (by decide)) rfl ?_
      refine sv (o_pickT (hk1) rfl rfl) rfl ?_
      refine sv (o_mv rfl) rfl ?_
      refine sn rfl (fun e_ => absurd ((rfl).symm.trans e_) (by decide)) rfl ?_
      refine sn rfl (fun e_ => absurd ((rfl).symm.trans e_) (by decide)) rfl ?_
      refine sv (o_pickT (rfl) rfl rfl) rfl ?_
      refine sv (o_as rfl) rfl ?_
      refine l_nil ?_
      refine e_K (hK2 _ _ _ _ ?_)
      refine c_ret ?_
      exact ret1 rfl rfl ⟨by simp_all [qServer], E⟩
  · skip
    refine c_region ?_
    refine sv (o_mv rfl) rfl ?_
    refine sc (o_call ent56 rfl) (c_small _ c) rfl fun v_ w9 h_ => ?_
    obtain ⟨rfl, E_⟩ := h_
    replace E := E.then E_
    refine sv (o_mv rfl) rfl ?_
    refine sn rfl (fun e_ => absurd ((hk0).symm.trans e_) (by decide)) rfl ?_
    refine sn rfl (fun e_ => absurd ((hk0).symm.trans e_) (by decide)) rfl ?_
    refine sv (o_pickT (hk0) rfl rfl) rfl ?_
    refine sv (o_mv rfl) rfl ?_
    refine sn rfl (fun e_ => absurd ((rfl).symm.trans e_) (by decide)) rfl ?_
    refine sn rfl (fun e_ => absurd ((rfl).symm.trans e_) (by decide)) rfl ?_
    refine sv (o_pickT (rfl) rfl rfl) rfl ?_
    refine sv (o_mv rfl) rfl ?_
    refine sn rfl (fun e_ => absurd ((rfl).symm.trans e_) (by decide)) rfl ?_
    refine sn rfl (fun e_ => absurd ((rfl).symm.trans e_) (by decide)) rfl ?_
    refine sv (o_pickT (rfl) rfl rfl) rfl ?_
    refine sv (o_as rfl) rfl ?_
    refine l_nil ?_
    refine e_K (hK2 _ _ _ _ ?_)
    refine c_ret ?_
    exact ret1 rfl rfl ⟨by simp_all [qServer], E⟩

theorem c_kUser (w : World) (c : Nat) (h1 : c ≤ 1114111) (h2 : ¬ (55296 ≤ c ∧ c ≤ 57343)) : Calls Tryd.prog 59 [.int .i32 (c : Int)].toArray w (Ret fun u w' => u = .bool (qUser c) ∧ Mod [] w w') := by
  refine enter Tryd.func59 rfl rfl rfl (l := [(0, _)]) ⟨rfl, trivial⟩ ?_
  have E := Mod.refl [] w
  refine c_seq fun K1 hK1 => ?_
  refine c_region ?_
  refine sv (o_as rfl) rfl ?_
  refine l_nil ?_
  refine e_K (hK1 _ _ _ _ ?_)
  refine c_seq fun K2 hK2 => ?_
  rcases hk0 : kS c with _ | _
  · skip
    rcases hk1 : kD c with _ | _
    · skip
      rcases hk2 : userS.any fun b => decide (b.toNat = c) with _ | _
      · skip
        refine c_region ?_
        refine sv (o_mv rfl) rfl ?_
        refine sc (o_call ent56 rfl) (c_small _ c) rfl fun v_ w1 h_ => ?_
        obtain ⟨rfl, E_⟩ := h_
        replace E := E.then E_
        refine sv (o_mv rfl) rfl ?_
        refine sg rfl (hk0) (o_mv rfl) rfl ?_
        refine sgc rfl (hk0) (o_call ent58 rfl) (c_digit _ c) rfl fun v_ w2 h_ => ?_
        obtain ⟨rfl, E_⟩ := h_
        replace E := E.then E_
        refine sv (o_pickF (hk0) rfl rfl) rfl ?_
        refine sv (o_mv rfl) rfl ?_
        refine sg rfl (hk1) (o_mv rfl) rfl ?_
        refine sgc rfl (hk1) (o_call ent60 rfl) (c_crune _ c h1 h2) rfl fun v_ w3 h_ => ?_
        obtain ⟨rfl, E_⟩ := h_
        replace E := E.then E_
        refine sv (o_pickF (hk1) rfl rfl) rfl ?_
        refine sv (o_as rfl) rfl ?_
        refine l_nil ?_
        refine e_K (hK2 _ _ _ _ ?_)
        refine c_ret ?_
        exact ret1 rfl rfl ⟨by simp_all [qUser], E⟩
      · skip
        refine c_region ?_
        refine sv (o_mv rfl) rfl ?_
        refine sc (o_call ent56 rfl) (c_small _ c) rfl fun v_ w4 h_ => ?_
        obtain ⟨rfl, E_⟩ := h_
        replace E := E.then E_
        refine sv (o_mv rfl) rfl ?_
        refine sg rfl (hk0) (o_mv rfl) rfl ?_
        refine sgc rfl (hk0) (o_call ent58 rfl) (c_digit _ c) rfl fun v_ w5 h_ => ?_
        obtain ⟨rfl, E_⟩ := h_
        replace E := E.then E_
        refine sv (o_pickF (hk0) rfl rfl) rfl ?_
        refine sv (o_mv rfl) rfl ?_
        refine sg rfl (hk1) (o_mv rfl) rfl ?_
        refine sgc rfl (hk1) (o_call ent60 rfl) (c_crune _ c h1 h2) rfl fun v_ w6 h_ => ?_
        obtain ⟨rfl, E_⟩ := h_
        replace E := E.then E_
        refine sv (o_pickF (hk1) rfl rfl) rfl ?_
        refine sv (o_as rfl) rfl ?_
        refine l_nil ?_
        refine e_K (hK2 _ _ _ _ ?_)
        refine c_ret ?_
        exact ret1 rfl rfl ⟨by simp_all [qUser], E⟩
    · skip
      refine c_region ?_
      refine sv (o_mv rfl) rfl ?_
      refine sc (o_call ent56 rfl) (c_small _ c) rfl fun v_ w7 h_ => ?_
      obtain ⟨rfl, E_⟩ := h_
      replace E := E.then E_
      refine sv (o_mv rfl) rfl ?_
      refine sg rfl (hk0) (o_mv rfl) rfl ?_
      refine sgc rfl (hk0) (o_call ent58 rfl) (c_digit _ c) rfl fun v_ w8 h_ => ?_
      obtain ⟨rfl, E_⟩ := h_
      replace E := E.then E_
      refine sv (o_pickF (hk0) rfl rfl) rfl ?_
      refine sv (o_mv rfl) rfl ?_
      refine sn rfl (fun e_ => absurd ((hk1).symm.trans e_) (by decide)) rfl ?_
      refine sn rfl (fun e_ => absurd ((hk1).symm.trans e_) (by decide)) rfl ?_
      refine sv (o_pickT (hk1) rfl rfl) rfl ?_
      refine sv (o_as rfl) rfl ?_
      refine l_nil ?_
      refine e_K (hK2 _ _ _ _ ?_)
      refine c_ret ?_
      exact ret1 rfl rfl ⟨by simp_all [qUser], E⟩
  · skip
    refine c_region ?_
    refine sv (o_mv rfl) rfl ?_
    refine sc (o_call ent56 rfl) (c_small _ c) rfl fun v_ w9 h_ => ?_
    obtain ⟨rfl, E_⟩ := h_
    replace E := E.then E_
    refine sv (o_mv rfl) rfl ?_
    refine sn rfl (fun e_ => absurd ((hk0).symm.trans e_) (by decide)) rfl ?_
    refine sn rfl (fun e_ => absurd ((hk0).symm.trans e_) (by decide)) rfl ?_
    refine sv (o_pickT (hk0) rfl rfl) rfl ?_
    refine sv (o_mv rfl) rfl ?_
    refine sn rfl (fun e_ => absurd ((rfl).symm.trans e_) (by decide)) rfl ?_
    refine sn rfl (fun e_ => absurd ((rfl).symm.trans e_) (by decide)) rfl ?_
    refine sv (o_pickT (rfl) rfl rfl) rfl ?_
    refine sv (o_as rfl) rfl ?_
    refine l_nil ?_
    refine e_K (hK2 _ _ _ _ ?_)
    refine c_ret ?_
    exact ret1 rfl rfl ⟨by simp_all [qUser], E⟩

theorem c_kRoom (w : World) (c : Nat) (h1 : c ≤ 1114111) (h2 : ¬ (55296 ≤ c ∧ c ≤ 57343)) : Calls Tryd.prog 55 [.int .i32 (c : Int)].toArray w (Ret fun u w' => u = .bool (qRoom c) ∧ Mod [] w w') := by
  refine enter Tryd.func55 rfl rfl rfl (l := [(0, _)]) ⟨rfl, trivial⟩ ?_
  have E := Mod.refl [] w
  refine c_seq fun K1 hK1 => ?_
  refine c_region ?_
  refine sv (o_as rfl) rfl ?_
  refine l_nil ?_
  refine e_K (hK1 _ _ _ _ ?_)
  refine c_seq fun K2 hK2 => ?_
  rcases hk0 : kS c with _ | _
  · skip
    rcases hk1 : kG c with _ | _
    · skip
      rcases hk2 : kD c with _ | _
      · skip
        by_cases hk3 : (c : Int) = 95
        · skip
          refine c_region ?_
          refine sv (o_mv rfl) rfl ?_
          refine sc (o_call ent56 rfl) (c_small _ c) rfl fun v_ w1 h_ => ?_
          obtain ⟨rfl, E_⟩ := h_
          replace E := E.then E_
          refine sv (o_mv rfl) rfl ?_
          refine sg rfl (hk0) (o_mv rfl) rfl ?_
          refine sgc rfl (hk0) (o_call ent57 rfl) (c_kgreat _ c) rfl fun v_ w2 h_ => ?_
          obtain ⟨rfl, E_⟩ := h_
          replace E := E.then E_
          refine sv (o_pickF (hk0) rfl rfl) rfl ?_
          refine sv (o_mv rfl) rfl ?_
          refine sg rfl (hk1) (o_mv rfl) rfl ?_
          refine sgc rfl (hk1) (o_call ent58 rfl) (c_digit _ c) rfl fun v_ w3 h_ => ?_
          obtain ⟨rfl, E_⟩ := h_
          replace E := E.then E_
          refine sv (o_pickF (hk1) rfl rfl) rfl ?_
          refine sv (o_mv rfl) rfl ?_
          refine sg rfl (hk2) (o_mv rfl) rfl ?_
          refine sg rfl (hk2) (o_eql rfl rfl) rfl ?_
          refine sv (o_pickF (hk2) rfl rfl) rfl ?_
          refine sv (o_mv rfl) rfl ?_
          refine sn rfl (fun e_ => absurd ((decide_eq_true hk3).symm.trans e_) (by decide)) rfl ?_
          refine sn rfl (fun e_ => absurd ((decide_eq_true hk3).symm.trans e_) (by decide)) rfl ?_
          refine sv (o_pickT (decide_eq_true hk3) rfl rfl) rfl ?_
          refine sv (o_as rfl) rfl ?_
          refine l_nil ?_
          refine e_K (hK2 _ _ _ _ ?_)
          refine c_ret ?_
          exact ret1 rfl rfl ⟨by simp_all [qRoom], E⟩
        · skip
          by_cases hk4 : (c : Int) = 45
          · skip
            refine c_region ?_
            refine sv (o_mv rfl) rfl ?_
            refine sc (o_call ent56 rfl) (c_small _ c) rfl fun v_ w4 h_ => ?_
            obtain ⟨rfl, E_⟩ := h_
            replace E := E.then E_
            refine sv (o_mv rfl) rfl ?_
            refine sg rfl (hk0) (o_mv rfl) rfl ?_
            refine sgc rfl (hk0) (o_call ent57 rfl) (c_kgreat _ c) rfl fun v_ w5 h_ => ?_
            obtain ⟨rfl, E_⟩ := h_
            replace E := E.then E_
            refine sv (o_pickF (hk0) rfl rfl) rfl ?_
            refine sv (o_mv rfl) rfl ?_
            refine sg rfl (hk1) (o_mv rfl) rfl ?_
            refine sgc rfl (hk1) (o_call ent58 rfl) (c_digit _ c) rfl fun v_ w6 h_ => ?_
            obtain ⟨rfl, E_⟩ := h_
            replace E := E.then E_
            refine sv (o_pickF (hk1) rfl rfl) rfl ?_
            refine sv (o_mv rfl) rfl ?_
            refine sg rfl (hk2) (o_mv rfl) rfl ?_
            refine sg rfl (hk2) (o_eql rfl rfl) rfl ?_
            refine sv (o_pickF (hk2) rfl rfl) rfl ?_
            refine sv (o_mv rfl) rfl ?_
            refine sg rfl (decide_eq_false hk3) (o_mv rfl) rfl ?_
            refine sg rfl (decide_eq_false hk3) (o_eql rfl rfl) rfl ?_
            refine sv (o_pickF (decide_eq_false hk3) rfl rfl) rfl ?_
            refine sv (o_as rfl) rfl ?_
            refine l_nil ?_
            refine e_K (hK2 _ _ _ _ ?_)
            refine c_ret ?_
            exact ret1 rfl rfl ⟨by simp_all [qRoom], E⟩
          · skip
            refine c_region ?_
            refine sv (o_mv rfl) rfl ?_
            refine sc (o_call ent56 rfl) (c_small _ c) rfl fun v_ w7 h_ => ?_
            obtain ⟨rfl, E_⟩ := h_
            replace E := E.then E_
            refine sv (o_mv rfl) rfl ?_
            refine sg rfl (hk0) (o_mv rfl) rfl ?_
            refine sgc rfl (hk0) (o_call ent57 rfl) (c_kgreat _ c) rfl fun v_ w8 h_ => ?_
            obtain ⟨rfl, E_⟩ := h_
            replace E := E.then E_
            refine sv (o_pickF (hk0) rfl rfl) rfl ?_
            refine sv (o_mv rfl) rfl ?_
            refine sg rfl (hk1) (o_mv rfl) rfl ?_
            refine sgc rfl (hk1) (o_call ent58 rfl) (c_digit _ c) rfl fun v_ w9 h_ => ?_
            obtain ⟨rfl, E_⟩ := h_
            replace E := E.then E_
            refine sv (o_pickF (hk1) rfl rfl) rfl ?_
            refine sv (o_mv rfl) rfl ?_
            refine sg rfl (hk2) (o_mv rfl) rfl ?_
            refine sg rfl (hk2) (o_eql rfl rfl) rfl ?_
            refine sv (o_pickF (hk2) rfl rfl) rfl ?_
            refine sv (o_mv rfl) rfl ?_
            refine sg rfl (decide_eq_false hk3) (o_mv rfl) rfl ?_
            refine sg rfl (decide_eq_false hk3) (o_eql rfl rfl) rfl ?_
            refine sv (o_pickF (decide_eq_false hk3) rfl rfl) rfl ?_
            refine sv (o_as rfl) rfl ?_
            refine l_nil ?_
            refine e_K (hK2 _ _ _ _ ?_)
            refine c_ret ?_
            exact ret1 rfl rfl ⟨by simp_all [qRoom], E⟩
      · skip
        refine c_region ?_
        refine sv (o_mv rfl) rfl ?_
        refine sc (o_call ent56 rfl) (c_small _ c) rfl fun v_ w10 h_ => ?_
        obtain ⟨rfl, E_⟩ := h_
        replace E := E.then E_
        refine sv (o_mv rfl) rfl ?_
        refine sg rfl (hk0) (o_mv rfl) rfl ?_
        refine sgc rfl (hk0) (o_call ent57 rfl) (c_kgreat _ c) rfl fun v_ w11 h_ => ?_
        obtain ⟨rfl, E_⟩ := h_
        replace E := E.then E_
        refine sv (o_pickF (hk0) rfl rfl) rfl ?_
        refine sv (o_mv rfl) rfl ?_
        refine sg rfl (hk1) (o_mv rfl) rfl ?_
        refine sgc rfl (hk1) (o_call ent58 rfl) (c_digit _ c) rfl fun v_ w12 h_ => ?_
        obtain ⟨rfl, E_⟩ := h_
        replace E := E.then E_
        refine sv (o_pickF (hk1) rfl rfl) rfl ?_
        refine sv (o_mv rfl) rfl ?_
        refine sn rfl (fun e_ => absurd ((hk2).symm.trans e_) (by decide)) rfl ?_
        refine sn rfl (fun e_ => absurd ((hk2).symm.trans e_) (by decide)) rfl ?_
        refine sv (o_pickT (hk2) rfl rfl) rfl ?_
        refine sv (o_mv rfl) rfl ?_
        refine sn rfl (fun e_ => absurd ((rfl).symm.trans e_) (by decide)) rfl ?_
        refine sn rfl (fun e_ => absurd ((rfl).symm.trans e_) (by decide)) rfl ?_
        refine sv (o_pickT (rfl) rfl rfl) rfl ?_
        refine sv (o_as rfl) rfl ?_
        refine l_nil ?_
        refine e_K (hK2 _ _ _ _ ?_)
        refine c_ret ?_
        exact ret1 rfl rfl ⟨by simp_all [qRoom], E⟩
    · skip
      refine c_region ?_
      refine sv (o_mv rfl) rfl ?_
      refine sc (o_call ent56 rfl) (c_small _ c) rfl fun v_ w13 h_ => ?_
      obtain ⟨rfl, E_⟩ := h_
      replace E := E.then E_
      refine sv (o_mv rfl) rfl ?_
      refine sg rfl (hk0) (o_mv rfl) rfl ?_
      refine sgc rfl (hk0) (o_call ent57 rfl) (c_kgreat _ c) rfl fun v_ w14 h_ => ?_
      obtain ⟨rfl, E_⟩ := h_
      replace E := E.then E_
      refine sv (o_pickF (hk0) rfl rfl) rfl ?_
      refine sv (o_mv rfl) rfl ?_
      refine sn rfl (fun e_ => absurd ((hk1).symm.trans e_) (by decide)) rfl ?_
      refine sn rfl (fun e_ => absurd ((hk1).symm.trans e_) (by decide)) rfl ?_
      refine sv (o_pickT (hk1) rfl rfl) rfl ?_
      refine sv (o_mv rfl) rfl ?_
      refine sn rfl (fun e_ => absurd ((rfl).symm.trans e_) (by decide)) rfl ?_
      refine sn rfl (fun e_ => absurd ((rfl).symm.trans e_) (by decide)) rfl ?_
      refine sv (o_pickT (rfl) rfl rfl) rfl ?_
      refine sv (o_mv rfl) rfl ?_
      refine sn rfl (fun e_ => absurd ((rfl).symm.trans e_) (by decide)) rfl ?_
      refine sn rfl (fun e_ => absurd ((rfl).symm.trans e_) (by decide)) rfl ?_
      refine sv (o_pickT (rfl) rfl rfl) rfl ?_
      refine sv (o_as rfl) rfl ?_
      refine l_nil ?_
      refine e_K (hK2 _ _ _ _ ?_)
      refine c_ret ?_
      exact ret1 rfl rfl ⟨by simp_all [qRoom], E⟩
  · skip
    refine c_region ?_
    refine sv (o_mv rfl) rfl ?_
    refine sc (o_call ent56 rfl) (c_small _ c) rfl fun v_ w15 h_ => ?_
    obtain ⟨rfl, E_⟩ := h_
    replace E := E.then E_
    refine sv (o_mv rfl) rfl ?_
    refine sn rfl (fun e_ => absurd ((hk0).symm.trans e_) (by decide)) rfl ?_
    refine sn rfl (fun e_ => absurd ((hk0).symm.trans e_) (by decide)) rfl ?_
    refine sv (o_pickT (hk0) rfl rfl) rfl ?_
    refine sv (o_mv rfl) rfl ?_
    refine sn rfl (fun e_ => absurd ((rfl).symm.trans e_) (by decide)) rfl ?_
    refine sn rfl (fun e_ => absurd ((rfl).symm.trans e_) (by decide)) rfl ?_
    refine sv (o_pickT (rfl) rfl rfl) rfl ?_
    refine sv (o_mv rfl) rfl ?_
    refine sn rfl (fun e_ => absurd ((rfl).symm.trans e_) (by decide)) rfl ?_
    refine sn rfl (fun e_ => absurd ((rfl).symm.trans e_) (by decide)) rfl ?_
    refine sv (o_pickT (rfl) rfl rfl) rfl ?_
    refine sv (o_mv rfl) rfl ?_
    refine sn rfl (fun e_ => absurd ((rfl).symm.trans e_) (by decide)) rfl ?_
    refine sn rfl (fun e_ => absurd ((rfl).symm.trans e_) (by decide)) rfl ?_
    refine sv (o_pickT (rfl) rfl rfl) rfl ?_
    refine sv (o_as rfl) rfl ?_
    refine l_nil ?_
    refine e_K (hK2 _ _ _ _ ?_)
    refine c_ret ?_
    exact ret1 rfl rfl ⟨by simp_all [qRoom], E⟩

theorem c_kKey (w : World) (c : Nat) (h1 : c ≤ 1114111) (h2 : ¬ (55296 ≤ c ∧ c ≤ 57343)) : Calls Tryd.prog 83 [.int .i32 (c : Int)].toArray w (Ret fun u w' => u = .bool (qKey c) ∧ Mod [] w w') := by
  refine enter Tryd.func83 rfl rfl rfl (l := [(0, _)]) ⟨rfl, trivial⟩ ?_
  have E := Mod.refl [] w
  refine c_seq fun K1 hK1 => ?_
  refine c_region ?_
  refine sv (o_as rfl) rfl ?_
  refine l_nil ?_
  refine e_K (hK1 _ _ _ _ ?_)
  refine c_seq fun K2 hK2 => ?_
  rcases hk0 : kS c with _ | _
  · skip
    rcases hk1 : kG c with _ | _
    · skip
      rcases hk2 : kD c with _ | _
      · skip
        by_cases hk3 : (c : Int) = 95
        · skip
          refine c_region ?_
          refine sv (o_mv rfl) rfl ?_
          refine sc (o_call ent56 rfl) (c_small _ c) rfl fun v_ w1 h_ => ?_
          obtain ⟨rfl, E_⟩ := h_
          replace E := E.then E_
          refine sv (o_mv rfl) rfl ?_
          refine sg rfl (hk0) (o_mv rfl) rfl ?_
          refine sgc rfl (hk0) (o_call ent57 rfl) (c_kgreat _ c) rfl fun v_ w2 h_ => ?_
          obtain ⟨rfl, E_⟩ := h_
          replace E := E.then E_
          refine sv (o_pickF (hk0) rfl rfl) rfl ?_
          refine sv (o_mv rfl) rfl ?_
          refine sg rfl (hk1) (o_mv rfl) rfl ?_
          refine sgc rfl (hk1) (o_call ent58 rfl) (c_digit _ c) rfl fun v_ w3 h_ => ?_
          obtain ⟨rfl, E_⟩ := h_
          replace E := E.then E_
          refine sv (o_pickF (hk1) rfl rfl) rfl ?_
          refine sv (o_mv rfl) rfl ?_
          refine sg rfl (hk2) (o_mv rfl) rfl ?_
          refine sg rfl (hk2) (o_eql rfl rfl) rfl ?_
          refine sv (o_pickF (hk2) rfl rfl) rfl ?_
          refine sv (o_as rfl) rfl ?_
          refine l_nil ?_
          refine e_K (hK2 _ _ _ _ ?_)
          refine c_ret ?_
          exact ret1 rfl rfl ⟨by simp_all [qKey], E⟩
        · skip
          refine c_region ?_
          refine sv (o_mv rfl) rfl ?_
          refine sc (o_call ent56 rfl) (c_small _ c) rfl fun v_ w4 h_ => ?_
          obtain ⟨rfl, E_⟩ := h_
          replace E := E.then E_
          refine sv (o_mv rfl) rfl ?_
          refine sg rfl (hk0) (o_mv rfl) rfl ?_
          refine sgc rfl (hk0) (o_call ent57 rfl) (c_kgreat _ c) rfl fun v_ w5 h_ => ?_
          obtain ⟨rfl, E_⟩ := h_
          replace E := E.then E_
          refine sv (o_pickF (hk0) rfl rfl) rfl ?_
          refine sv (o_mv rfl) rfl ?_
          refine sg rfl (hk1) (o_mv rfl) rfl ?_
          refine sgc rfl (hk1) (o_call ent58 rfl) (c_digit _ c) rfl fun v_ w6 h_ => ?_
          obtain ⟨rfl, E_⟩ := h_
          replace E := E.then E_
          refine sv (o_pickF (hk1) rfl rfl) rfl ?_
          refine sv (o_mv rfl) rfl ?_
          refine sg rfl (hk2) (o_mv rfl) rfl ?_
          refine sg rfl (hk2) (o_eql rfl rfl) rfl ?_
          refine sv (o_pickF (hk2) rfl rfl) rfl ?_
          refine sv (o_as rfl) rfl ?_
          refine l_nil ?_
          refine e_K (hK2 _ _ _ _ ?_)
          refine c_ret ?_
          exact ret1 rfl rfl ⟨by simp_all [qKey], E⟩
      · skip
        refine c_region ?_
        refine sv (o_mv rfl) rfl ?_
        refine sc (o_call ent56 rfl) (c_small _ c) rfl fun v_ w7 h_ => ?_
        obtain ⟨rfl, E_⟩ := h_
        replace E := E.then E_
        refine sv (o_mv rfl) rfl ?_
        refine sg rfl (hk0) (o_mv rfl) rfl ?_
        refine sgc rfl (hk0) (o_call ent57 rfl) (c_kgreat _ c) rfl fun v_ w8 h_ => ?_
        obtain ⟨rfl, E_⟩ := h_
        replace E := E.then E_
        refine sv (o_pickF (hk0) rfl rfl) rfl ?_
        refine sv (o_mv rfl) rfl ?_
        refine sg rfl (hk1) (o_mv rfl) rfl ?_
        refine sgc rfl (hk1) (o_call ent58 rfl) (c_digit _ c) rfl fun v_ w9 h_ => ?_
        obtain ⟨rfl, E_⟩ := h_
        replace E := E.then E_
        refine sv (o_pickF (hk1) rfl rfl) rfl ?_
        refine sv (o_mv rfl) rfl ?_
        refine sn rfl (fun e_ => absurd ((hk2).symm.trans e_) (by decide)) rfl ?_
        refine sn rfl (fun e_ => absurd ((hk2).symm.trans e_) (by decide)) rfl ?_
        refine sv (o_pickT (hk2) rfl rfl) rfl ?_
        refine sv (o_as rfl) rfl ?_
        refine l_nil ?_
        refine e_K (hK2 _ _ _ _ ?_)
        refine c_ret ?_
        exact ret1 rfl rfl ⟨by simp_all [qKey], E⟩
    · skip
      refine c_region ?_
      refine sv (o_mv rfl) rfl ?_
      refine sc (o_call ent56 rfl) (c_small _ c) rfl fun v_ w10 h_ => ?_
      obtain ⟨rfl, E_⟩ := h_
      replace E := E.then E_
      refine sv (o_mv rfl) rfl ?_
      refine sg rfl (hk0) (o_mv rfl) rfl ?_
      refine sgc rfl (hk0) (o_call ent57 rfl) (c_kgreat _ c) rfl fun v_ w11 h_ => ?_
      obtain ⟨rfl, E_⟩ := h_
      replace E := E.then E_
      refine sv (o_pickF (hk0) rfl rfl) rfl ?_
      refine sv (o_mv rfl) rfl ?_
      refine sn rfl (fun e_ => absurd ((hk1).symm.trans e_) (by decide)) rfl ?_
      refine sn rfl (fun e_ => absurd ((hk1).symm.trans e_) (by decide)) rfl ?_
      refine sv (o_pickT (hk1) rfl rfl) rfl ?_
      refine sv (o_mv rfl) rfl ?_
      refine sn rfl (fun e_ => absurd ((rfl).symm.trans e_) (by decide)) rfl ?_
      refine sn rfl (fun e_ => absurd ((rfl).symm.trans e_) (by decide)) rfl ?_
      refine sv (o_pickT (rfl) rfl rfl) rfl ?_
      refine sv (o_as rfl) rfl ?_
      refine l_nil ?_
      refine e_K (hK2 _ _ _ _ ?_)
      refine c_ret ?_
      exact ret1 rfl rfl ⟨by simp_all [qKey], E⟩
  · skip
    refine c_region ?_
    refine sv (o_mv rfl) rfl ?_
    refine sc (o_call ent56 rfl) (c_small _ c) rfl fun v_ w12 h_ => ?_
    obtain ⟨rfl, E_⟩ := h_
    replace E := E.then E_
    refine sv (o_mv rfl) rfl ?_
    refine sn rfl (fun e_ => absurd ((hk0).symm.trans e_) (by decide)) rfl ?_
    refine sn rfl (fun e_ => absurd ((hk0).symm.trans e_) (by decide)) rfl ?_
    refine sv (o_pickT (hk0) rfl rfl) rfl ?_
    refine sv (o_mv rfl) rfl ?_
    refine sn rfl (fun e_ => absurd ((rfl).symm.trans e_) (by decide)) rfl ?_
    refine sn rfl (fun e_ => absurd ((rfl).symm.trans e_) (by decide)) rfl ?_
    refine sv (o_pickT (rfl) rfl rfl) rfl ?_
    refine sv (o_mv rfl) rfl ?_
    refine sn rfl (fun e_ => absurd ((rfl).symm.trans e_) (by decide)) rfl ?_
    refine sn rfl (fun e_ => absurd ((rfl).symm.trans e_) (by decide)) rfl ?_
    refine sv (o_pickT (rfl) rfl rfl) rfl ?_
    refine sv (o_as rfl) rfl ?_
    refine l_nil ?_
    refine e_K (hK2 _ _ _ _ ?_)
    refine c_ret ?_
    exact ret1 rfl rfl ⟨by simp_all [qKey], E⟩

theorem c_all (w : World) (s : Str) (k : FuncId) (q : Nat → Bool) (he : Ent Tryd.prog k) (hk : ∀ (w : World) (c : Nat), c ≤ 1114111 → ¬ (55296 ≤ c ∧ c ≤ 57343) → Calls Tryd.prog k [.int .i32 (c : Int)].toArray w (Ret fun u w' => u = .bool (q c) ∧ Mod [] w w')) (hq : ∀ c, q c = true → c < 128) : Calls Tryd.prog 54 [S s, .func (.func k) #[] #[]].toArray w (Ret fun u w' => u = .bool (allB q s) ∧ Mod [] w w') := by
  refine enter Tryd.func54 rfl rfl rfl (l := [(0, _), (1, _)]) ⟨rfl, rfl, trivial⟩ ?_
  have E := Mod.refl [] w
  refine c_seq fun K1 hK1 => ?_
  refine c_region ?_
  refine sv (o_as rfl) rfl ?_
  refine l_nil ?_
  refine e_K (hK1 _ _ _ _ ?_)
  refine c_seq fun K2 hK2 => ?_
  refine c_seq fun K3 hK3 => ?_
  refine c_region ?_
  refine sv (o_mv rfl) rfl ?_
  refine s_range Tryd.underlying9 rfl rfl fun gi w1 IT hgi EI => ?_
  have Lgi : w.heap.size ≤ gi := by have := E.size; omega
  replace E := E.then EI
  refine l_nil ?_
  refine e_K (hK3 _ _ _ _ ?_)
  refine c_block ?_
  refine c_loop (σ := Nat) (fun p => [(0, S s), (1, .func (.func k) #[] #[]), (8, .pointer (some ⟨gi, 0, none⟩))]) (fun p w1 => p ≤ s.length ∧ (s.take p).all (fun b => q b.toNat) = true ∧ It w1 gi s p ∧ Mod [] w w1) (fun p => s.length - p) (0) ⟨rfl, rfl, rfl, trivial⟩ (⟨by omega, by simp, IT, E⟩) ?_
  rintro p w2 ⟨hp, ha, IT, E⟩
  refine c_seq fun K4 hK4 => ?_
  by_cases hplt : p < s.length
  · skip
    obtain ⟨b, hb⟩ : ∃ b, s[p]? = some b := ⟨_, List.getElem?_eq_getElem hplt⟩
    have hbl := b.toNat_lt
    by_cases hbs : b.toNat < 128
    · skip
      skip
      refine c_region ?_
      refine s_next rfl IT hplt (dec_lt hb hbs) rfl fun w3 IT2 EN hzN => ?_
      replace E := E.trans' EN (fun x hx => .inr (by simp at hx; subst hx; exact Lgi))
      clear IT
      have IT := IT2
      refine sv (o_ext rfl rfl) rfl ?_
      refine l_nil ?_
      refine e_K (hK4 _ _ _ _ ?_)
      refine c_seq fun K5 hK5 => ?_
      refine c_cond rfl (fun h10 => ?_) (fun h10 => ?_)
      · skip
        skip
        refine c_skip ?_
        refine e_K (hK5 _ _ _ _ ?_)
        refine c_block ?_
        refine c_seq fun K6 hK6 => ?_
        refine c_region ?_
        refine sv (o_ext rfl rfl) rfl ?_
        refine sv (o_as rfl) rfl ?_
        refine l_nil ?_
        refine e_K (hK6 _ _ _ _ ?_)
        refine c_seq fun K7 hK7 => ?_
        refine c_region ?_
        refine sv (o_mv rfl) rfl ?_
        refine sv (o_mv rfl) rfl ?_
        refine sc (o_callv he rfl rfl) (hk _ b.toNat (by omega) (by omega)) rfl fun v_ w4 h_ => ?_
        obtain ⟨rfl, E_⟩ := h_
        replace IT := IT.mod0 E_
        replace E := E.then E_
        refine sv (o_not rfl) rfl ?_
        refine l_nil ?_
        refine e_K (hK7 _ _ _ _ ?_)
        refine c_cond rfl (fun h15 => ?_) (fun h15 => ?_)
        · skip
          have hR : allB q s = false := allB_no hb (by simpa using h15)
          refine c_seq fun K8 hK8 => ?_
          refine c_region ?_
          refine sv (o_as rfl) rfl ?_
          refine l_nil ?_
          refine e_K (hK8 _ _ _ _ ?_)
          refine c_ret ?_
          refine e_in (by simp) ?_
          refine e_then (by simp) ?_
          refine e_in (by simp) ?_
          refine e_then (by simp) ?_
          exact ret1 rfl rfl ⟨by rw [hR], E⟩
        · skip
          have hnx := all_succ hb ha (by simpa using h15)
          refine c_skip ?_
          refine e_in (by simp) ?_
          exact e_round (σ := Nat) (s := p) (p + 1) ⟨rfl, rfl, rfl, trivial⟩ ⟨by omega, hnx, IT, E⟩ (by omega)
      · skip
        cases h10
    · skip
      obtain ⟨c, m, hdec, hc128, hc1, hc2⟩ := dec_ge hb (by omega)
      refine c_region ?_
      refine s_next rfl IT hplt (hdec) rfl fun w5 IT2 EN hzN => ?_
      replace E := E.trans' EN (fun x hx => .inr (by simp at hx; subst hx; exact Lgi))
      clear IT
      have IT := IT2
      refine sv (o_ext rfl rfl) rfl ?_
      refine l_nil ?_
      refine e_K (hK4 _ _ _ _ ?_)
      refine c_seq fun K9 hK9 => ?_
      refine c_cond rfl (fun h10 => ?_) (fun h10 => ?_)
      · skip
        skip
        refine c_skip ?_
        refine e_K (hK9 _ _ _ _ ?_)
        refine c_block ?_
        refine c_seq fun K10 hK10 => ?_
        refine c_region ?_
        refine sv (o_ext rfl rfl) rfl ?_
        refine sv (o_as rfl) rfl ?_
        refine l_nil ?_
        refine e_K (hK10 _ _ _ _ ?_)
        refine c_seq fun K11 hK11 => ?_
        refine c_region ?_
        refine sv (o_mv rfl) rfl ?_
        refine sv (o_mv rfl) rfl ?_
        refine sc (o_callv he rfl rfl) (hk _ c (by omega) (by omega)) rfl fun v_ w6 h_ => ?_
        obtain ⟨rfl, E_⟩ := h_
        replace IT := IT.mod0 E_
        replace E := E.then E_
        refine sv (o_not rfl) rfl ?_
        refine l_nil ?_
        refine e_K (hK11 _ _ _ _ ?_)
        refine c_cond rfl (fun h15 => ?_) (fun h15 => ?_)
        · skip
          have hR : allB q s = false := allB_no hb (Bool.eq_false_iff.2 fun h => by have := hq _ h; omega)
          refine c_seq fun K12 hK12 => ?_
          refine c_region ?_
          refine sv (o_as rfl) rfl ?_
          refine l_nil ?_
          refine e_K (hK12 _ _ _ _ ?_)
          refine c_ret ?_
          refine e_in (by simp) ?_
          refine e_then (by simp) ?_
          refine e_in (by simp) ?_
          refine e_then (by simp) ?_
          exact ret1 rfl rfl ⟨by rw [hR], E⟩
        · skip
          exact absurd (hq c (by simpa using h15)) (by omega)
      · skip
        cases h10
  · skip
    have hs_end := hplt
    have hR := allB_yes (q := q) (by omega) ha
    refine c_region ?_
    refine s_next_end rfl IT hs_end rfl ?_
    refine sv (o_ext rfl rfl) rfl ?_
    refine l_nil ?_
    refine e_K (hK4 _ _ _ _ ?_)
    refine c_seq fun K13 hK13 => ?_
    refine c_cond rfl (fun h10 => ?_) (fun h10 => ?_)
    · skip
      cases h10
    · skip
      skip
      refine c_exit ?_
      refine e_then (by simp) ?_
      refine e_then (by simp) ?_
      refine e_hit ?_
      refine e_K (hK2 _ _ _ _ ?_)
      refine c_seq fun K14 hK14 => ?_
      refine c_region ?_
      refine sv (o_mv rfl) rfl ?_
      refine sv (o_sne rfl rfl) rfl ?_
      refine sv (o_as rfl) rfl ?_
      refine l_nil ?_
      refine e_K (hK14 _ _ _ _ ?_)
      refine c_ret ?_
      exact ret1 rfl rfl ⟨by rw [hR], E⟩
end Go.Proofs.YtkhbnhdlelmbnaaDoor.V

set_option linter.unusedVariables false
set_option linter.unusedSimpArgs false
namespace Go.Proofs.YtkhbnhdlelmbnaaDoor.V
open Go
theorem cut_colon' (s : Str) : Lib.cut s [58] = (s.take (colonAt s), s.drop (colonAt s + 1), decide (colonAt s < s.length)) := by
  rw [cut_colon]
  have := colon_le s
  by_cases h : colonAt s < s.length
  · rw [if_pos h, decide_eq_true h]
  · rw [if_neg h, decide_eq_false h, List.take_of_length_le (by omega), List.drop_eq_nil_of_le (by omega)]
theorem server_e1 (s : Str) : decide (colonAt s = s.length) = !decide (colonAt s < s.length) := by
  have := colon_le s
  by_cases h : colonAt s < s.length
  · rw [decide_eq_true h, decide_eq_false (by omega)]; rfl
  · rw [decide_eq_false h, decide_eq_true (by omega)]; rfl
theorem server_e2 (s : Str) : decide (s.length - colonAt s ≤ 6) = decide (((s.drop (colonAt s + 1)).length : Int) ≤ 5) := by
  rw [List.length_drop, decide_eq_decide]
  omega
theorem len_e3 (s : Str) : decide (s.length ≤ 255) = decide ((s.length : Int) ≤ 255) := by
  rw [decide_eq_decide]
  omega
/-- has a text a sign ahead, and isn't it too long? -/
def partG (sign : UInt8) (s : Str) : Bool := decide (s.head? = some sign) && decide ((s.length : Int) ≤ 255)
theorem namedB_eq {sign : UInt8} (h58 : sign ≠ 58) (q : Nat → Bool) (s : Str) :
    namedB sign q s = (partG sign s && decide (colonAt (s.drop 1) < (s.drop 1).length) && serverB ((s.drop 1).drop (colonAt (s.drop 1) + 1)) && allB q ((s.drop 1).take (colonAt (s.drop 1)))) := by
  cases s with
  | nil => simp [namedB, partG]
  | cons b r =>
    by_cases hb : b = sign
    · subst hb
      have hc : colonAt (b :: r) = colonAt r + 1 := by
        have : (b == 58) = false := by simpa using h58
        simp [colonAt, List.findIdx_cons, this]
      simp only [namedB, partG, hc, List.drop_succ_cons, List.drop_zero, List.length_cons, List.head?_cons, List.take_succ_cons, decide_true]
      rw [show decide (r.length + 1 ≤ 255) = decide (((r.length + 1 : Nat) : Int) ≤ 255) by rw [decide_eq_decide]; omega, show decide (colonAt r + 1 < r.length + 1) = decide (colonAt r < r.length) by rw [decide_eq_decide]; omega]
      generalize decide (((r.length + 1 : Nat) : Int) ≤ 255) = a1
      generalize decide (colonAt r < r.length) = a2
      generalize allB q (r.take (colonAt r)) = a3
      generalize serverB (r.drop (colonAt r + 1)) = a4
      cases a1 <;> cases a2 <;> cases a3 <;> cases a4 <;> rfl
    · have : decide ((b :: r).head? = some sign) = false := by simp [hb]
      rw [namedB, partG, this]
      simp
theorem hasP_take (s p : Str) : Lib.hasPrefix s p = decide (s.take p.length = p) := by
  unfold Lib.hasPrefix
  rw [Bool.eq_iff_iff]
  simp only [decide_eq_true_eq, List.isPrefixOf_iff_prefix]
  rw [List.prefix_iff_eq_take]
  exact eq_comm
theorem keyB_eq (s : Str) : keyB s = (Lib.hasPrefix s edS && decide ((s.length : Int) ≤ 255) && allB qKey (Lib.trimPrefix s edS)) := by
  have h8 : edS.length = 8 := rfl
  unfold keyB Lib.trimPrefix
  rw [hasP_take, h8, len_e3]
  by_cases h : s.take 8 = edS
  · rw [decide_eq_true h, if_pos rfl]
    generalize decide ((s.length : Int) ≤ 255) = a1
    generalize allB qKey (s.drop 8) = a2
    cases a1 <;> cases a2 <;> rfl
  · rw [decide_eq_false h]
    simp
/-! ### the document's kinds -/
end Go.Proofs.YtkhbnhdlelmbnaaDoor.V
