/-
  A part of the proof: walks of functions. No condition of its own.
-/
import Derived.Test.YtkhbnhdlelmbnaaDoorM15
import Derived.Test.YtkhbnhdlelmbnaaDoorM16
set_option linter.unusedVariables false
set_option linter.unusedSimpArgs false
set_option maxRecDepth 10000
namespace Go.Proofs.YtkhbnhdlelmbnaaDoor.V
open Go Go.Proofs
theorem ent81 : Ent Tryd.prog 81 := Ent.of Tryd.func81 (by kernel_rfl) (by kernel_rfl)
theorem c_value (w : World) (url : Bool) (c : Nat) (hc : c ≤ 1114111) : Calls Tryd.prog 81 [.int .i32 (c : Int), .bool url].toArray w (Ret fun u w' => u = .tuple #[.int .u64 (((lv url c).getD 0 : Nat) : Int), .bool (lv url c).isSome] ∧ Mod [] w w') := by
  refine enter Tryd.func81 rfl rfl rfl (l := [(0, _), (1, _)]) ⟨rfl, rfl, trivial⟩ ?_
  have E := Mod.refl [] w
  refine c_seq fun K1 hK1 => ?_
  refine c_region ?_
  refine sv (o_as rfl) rfl ?_
  refine sv (o_as rfl) rfl ?_
  refine l_nil ?_
  refine e_K (hK1 _ _ _ _ ?_)
  refine c_seq fun K2 hK2 => ?_
  refine c_block ?_
  refine c_seq fun K3 hK3 => ?_
  have J3 : ∀  (w1 : World), True ∧ Mod [] w w1 → ∀ a, Has 62 [] [(0, .int .i32 (c : Int)), (1, .bool url), (6, .bool (kG c))] a → K3 a w1 := by
    intro  w1 hI
    obtain ⟨_, E⟩ := hI
    refine hK3 _ _ _ _ ?_
    refine c_cond rfl (fun h6 => ?_) (fun h6 => ?_)
    · skip
      refine c_seq fun K4 hK4 => ?_
      refine c_region ?_
      refine sv (o_mv rfl) rfl ?_
      have hr : 65 ≤ c ∧ c ≤ 90 := by simp [kG] at h6; omega
      refine sv ((o_sub rfl rfl).to (v' := .int .i32 ((c - 65 : Nat) : Int)) (by rw [wrapi32_in _ (by omega)]; congr 1; omega)) rfl ?_
      refine sv (o_convN Tryd.underlying21 Tryd.underlying119 rfl (wrapu64_in _ (by omega))) rfl ?_
      refine sv (o_as rfl) rfl ?_
      refine sv (o_as rfl) rfl ?_
      refine l_nil ?_
      refine e_K (hK4 _ _ _ _ ?_)
      refine c_ret ?_
      refine e_in (by simp) ?_
      refine e_then (by simp) ?_
      exact ret2 rfl rfl rfl ⟨by rw [show lv url c = some (c - 65) by rw [lv, if_pos h6]]; rfl, E⟩
    · skip
      refine c_seq fun K5 hK5 => ?_
      have J5 : ∀  (w1 : World), True ∧ Mod [] w w1 → ∀ a, Has 62 [] [(0, .int .i32 (c : Int)), (1, .bool url), (16, .bool (kS c))] a → K5 a w1 := by
        intro  w2 hI
        obtain ⟨_, E⟩ := hI
        refine hK5 _ _ _ _ ?_
        refine c_cond rfl (fun h16 => ?_) (fun h16 => ?_)
        · skip
          refine c_seq fun K6 hK6 => ?_
          refine c_region ?_
          refine sv (o_mv rfl) rfl ?_
          have hr : 97 ≤ c ∧ c ≤ 122 := by simp [kS] at h16; omega
          refine sv ((o_sub rfl rfl).to (v' := .int .i32 ((c - 97 : Nat) : Int)) (by rw [wrapi32_in _ (by omega)]; congr 1; omega)) rfl ?_
          refine sv (o_convN Tryd.underlying21 Tryd.underlying119 rfl (wrapu64_in _ (by omega))) rfl ?_
          refine sv ((o_add rfl rfl).to (v' := .int .u64 ((c - 97 + 26 : Nat) : Int)) (by rw [wrapu64_in _ (by omega)]; rfl)) rfl ?_
          refine sv (o_as rfl) rfl ?_
          refine sv (o_as rfl) rfl ?_
          refine l_nil ?_
          refine e_K (hK6 _ _ _ _ ?_)
          refine c_ret ?_
          refine e_in (by simp) ?_
          refine e_then (by simp) ?_
          exact ret2 rfl rfl rfl ⟨by rw [show lv url c = some (c - 97 + 26) by rw [lv, if_neg (by simp [h6]), if_pos h16]]; rfl, E⟩
        · skip
          refine c_seq fun K7 hK7 => ?_
          have J7 : ∀  (w1 : World), True ∧ Mod [] w w1 → ∀ a, Has 62 [] [(0, .int .i32 (c : Int)), (1, .bool url), (27, .bool (kD c))] a → K7 a w1 := by
            intro  w3 hI
            obtain ⟨_, E⟩ := hI
            refine hK7 _ _ _ _ ?_
            refine c_cond rfl (fun h27 => ?_) (fun h27 => ?_)
            · skip
              refine c_seq fun K8 hK8 => ?_
              refine c_region ?_
              refine sv (o_mv rfl) rfl ?_
              have hr : 48 ≤ c ∧ c ≤ 57 := by simp [kD] at h27; omega
              refine sv ((o_sub rfl rfl).to (v' := .int .i32 ((c - 48 : Nat) : Int)) (by rw [wrapi32_in _ (by omega)]; congr 1; omega)) rfl ?_
              refine sv (o_convN Tryd.underlying21 Tryd.underlying119 rfl (wrapu64_in _ (by omega))) rfl ?_
              refine sv ((o_add rfl rfl).to (v' := .int .u64 ((c - 48 + 52 : Nat) : Int)) (by rw [wrapu64_in _ (by omega)]; rfl)) rfl ?_
              refine sv (o_as rfl) rfl ?_
              refine sv (o_as rfl) rfl ?_
              refine l_nil ?_
              refine e_K (hK8 _ _ _ _ ?_)
              refine c_ret ?_
              refine e_in (by simp) ?_
              refine e_then (by simp) ?_
              exact ret2 rfl rfl rfl ⟨by rw [show lv url c = some (c - 48 + 52) by rw [lv, if_neg (by simp [h6]), if_neg (by simp [h16]), if_pos h27]]; rfl, E⟩
            · skip
              refine c_seq fun K9 hK9 => ?_
              have J9 : ∀ (x : Bool) (w1 : World), x = l62 url c ∧ Mod [] w w1 → ∀ a, Has 62 [] [(0, .int .i32 (c : Int)), (1, .bool url), (38, .bool x)] a → K9 a w1 := by
                intro x w4 hI
                obtain ⟨hx38, E⟩ := hI
                refine hK9 _ _ _ _ ?_
                refine c_cond rfl (fun h38 => ?_) (fun h38 => ?_)
                · skip
                  refine c_seq fun K10 hK10 => ?_
                  refine c_region ?_
                  refine sv (o_as rfl) rfl ?_
                  refine sv (o_as rfl) rfl ?_
                  refine l_nil ?_
                  refine e_K (hK10 _ _ _ _ ?_)
                  refine c_ret ?_
                  refine e_in (by simp) ?_
                  refine e_then (by simp) ?_
                  exact ret2 rfl rfl rfl ⟨by rw [show lv url c = some 62 by rw [lv, if_neg (by simp [h6]), if_neg (by simp [h16]), if_neg (by simp [h27]), if_pos (hx38.symm.trans h38)]]; rfl, E⟩
                · skip
                  refine c_seq fun K11 hK11 => ?_
                  have J11 : ∀ (x : Bool) (w1 : World), x = l63 url c ∧ Mod [] w w1 → ∀ a, Has 62 [] [(0, .int .i32 (c : Int)), (1, .bool url), (50, .bool x)] a → K11 a w1 := by
                    intro x w5 hI
                    obtain ⟨hx50, E⟩ := hI
                    refine hK11 _ _ _ _ ?_
                    refine c_cond rfl (fun h50 => ?_) (fun h50 => ?_)
                    · skip
                      refine c_seq fun K12 hK12 => ?_
                      refine c_region ?_
                      refine sv (o_as rfl) rfl ?_
                      refine sv (o_as rfl) rfl ?_
                      refine l_nil ?_
                      refine e_K (hK12 _ _ _ _ ?_)
                      refine c_ret ?_
                      refine e_in (by simp) ?_
                      refine e_then (by simp) ?_
                      exact ret2 rfl rfl rfl ⟨by rw [show lv url c = some 63 by rw [lv, if_neg (by simp [h6]), if_neg (by simp [h16]), if_neg (by simp [h27]), if_neg (by rw [← hx38, h38]; simp), if_pos (hx50.symm.trans h50)]]; rfl, E⟩
                    · skip
                      refine c_skip ?_
                      refine e_in (by simp) ?_
                      refine e_K (hK2 _ _ _ _ ?_)
                      refine c_seq fun K13 hK13 => ?_
                      refine c_region ?_
                      refine sv (o_as rfl) rfl ?_
                      refine sv (o_as rfl) rfl ?_
                      refine l_nil ?_
                      refine e_K (hK13 _ _ _ _ ?_)
                      refine c_ret ?_
                      exact ret2 rfl rfl rfl ⟨by rw [show lv url c = none by rw [lv, if_neg (by simp [h6]), if_neg (by simp [h16]), if_neg (by simp [h27]), if_neg (by rw [← hx38, h38]; simp), if_neg (by rw [← hx50, h50]; simp)]]; rfl, E⟩
                  refine c_seq fun K14 hK14 => ?_
                  have J14 : ∀  (w1 : World), True ∧ Mod [] w w1 → ∀ a, Has 62 [] [(0, .int .i32 (c : Int)), (1, .bool url), (50, .bool (decide ((c : Int) = 47) && !url))] a → K14 a w1 := by
                    intro  w6 hI
                    obtain ⟨_, E⟩ := hI
                    refine hK14 _ _ _ _ ?_
                    refine c_cond rfl (fun h50 => ?_) (fun h50 => ?_)
                    · skip
                      refine c_skip ?_
                      refine WE.sub (l' := [(0, _), (1, _), (50, _)]) ⟨rfl, rfl, rfl, trivial⟩ (e_K (J11 (decide ((c : Int) = 47) && !url) w6 ⟨(by rw [l63, h50, Bool.true_or]), E⟩))
                    · skip
                      by_cases hk0 : (c : Int) = 95
                      · skip
                        refine c_region ?_
                        refine sv (o_mv rfl) rfl ?_
                        refine sv (o_eql rfl rfl) rfl ?_
                        refine sv (o_mv rfl) rfl ?_
                        refine sg rfl (decide_eq_true hk0) (o_mv rfl) rfl ?_
                        refine sv (o_pickT (decide_eq_true hk0) rfl rfl) rfl ?_
                        refine sv (o_as rfl) rfl ?_
                        refine l_nil ?_
                        refine WE.sub (l' := [(0, _), (1, _), (50, _)]) ⟨rfl, rfl, rfl, trivial⟩ (e_K (J11 url w6 ⟨(by rw [l63, h50]; simp only [decide_eq_true hk0, Bool.true_and, Bool.and_true, Bool.false_and, Bool.and_false, Bool.true_or, Bool.or_true, Bool.false_or, Bool.or_false, Bool.not_true, Bool.not_false]), E⟩))
                      · skip
                        refine c_region ?_
                        refine sv (o_mv rfl) rfl ?_
                        refine sv (o_eql rfl rfl) rfl ?_
                        refine sv (o_mv rfl) rfl ?_
                        refine sn rfl (fun e_ => absurd ((decide_eq_false hk0).symm.trans e_) (by decide)) rfl ?_
                        refine sv (o_pickF (decide_eq_false hk0) rfl rfl) rfl ?_
                        refine sv (o_as rfl) rfl ?_
                        refine l_nil ?_
                        refine WE.sub (l' := [(0, _), (1, _), (50, _)]) ⟨rfl, rfl, rfl, trivial⟩ (e_K (J11 false w6 ⟨(by rw [l63, h50]; simp only [decide_eq_false hk0, Bool.true_and, Bool.and_true, Bool.false_and, Bool.and_false, Bool.true_or, Bool.or_true, Bool.false_or, Bool.or_false, Bool.not_true, Bool.not_false]), E⟩))
                  by_cases hk0 : (c : Int) = 47
                  · skip
                    by_cases hk1 : (!url) = true
                    · skip
                      refine c_region ?_
                      refine sv (o_mv rfl) rfl ?_
                      refine sv (o_eql rfl rfl) rfl ?_
                      refine sv (o_mv rfl) rfl ?_
                      refine sg rfl (decide_eq_true hk0) (o_mv rfl) rfl ?_
                      refine sg rfl (decide_eq_true hk0) (o_not rfl) rfl ?_
                      refine sv (o_pickT (decide_eq_true hk0) rfl rfl) rfl ?_
                      refine sv ((o_as rfl).to (v' := .bool (decide ((c : Int) = 47) && !url)) (congrArg Value.bool (by simp only [decide_eq_true hk0, hk1, Bool.true_and, Bool.and_true, Bool.false_and, Bool.and_false, Bool.true_or, Bool.or_true, Bool.false_or, Bool.or_false, Bool.not_true, Bool.not_false]))) rfl ?_
                      refine l_nil ?_
                      refine WE.sub (l' := [(0, _), (1, _), (50, _)]) ⟨rfl, rfl, rfl, trivial⟩ (e_K (J14  w4 ⟨trivial, E⟩))
                    · skip
                      refine c_region ?_
                      refine sv (o_mv rfl) rfl ?_
                      refine sv (o_eql rfl rfl) rfl ?_
                      refine sv (o_mv rfl) rfl ?_
                      refine sg rfl (decide_eq_true hk0) (o_mv rfl) rfl ?_
                      refine sg rfl (decide_eq_true hk0) (o_not rfl) rfl ?_
                      refine sv (o_pickT (decide_eq_true hk0) rfl rfl) rfl ?_
                      refine sv ((o_as rfl).to (v' := .bool (decide ((c : Int) = 47) && !url)) (congrArg Value.bool (by simp only [decide_eq_true hk0, Bool.eq_false_iff.2 hk1, Bool.true_and, Bool.and_true, Bool.false_and, Bool.and_false, Bool.true_or, Bool.or_true, Bool.false_or, Bool.or_false, Bool.not_true, Bool.not_false]))) rfl ?_
                      refine l_nil ?_
                      refine WE.sub (l' := [(0, _), (1, _), (50, _)]) ⟨rfl, rfl, rfl, trivial⟩ (e_K (J14  w4 ⟨trivial, E⟩))
                  · skip
                    refine c_region ?_
                    refine sv (o_mv rfl) rfl ?_
                    refine sv (o_eql rfl rfl) rfl ?_
                    refine sv (o_mv rfl) rfl ?_
                    refine sn rfl (fun e_ => absurd ((decide_eq_false hk0).symm.trans e_) (by decide)) rfl ?_
                    refine sn rfl (fun e_ => absurd ((decide_eq_false hk0).symm.trans e_) (by decide)) rfl ?_
                    refine sv (o_pickF (decide_eq_false hk0) rfl rfl) rfl ?_
                    refine sv ((o_as rfl).to (v' := .bool (decide ((c : Int) = 47) && !url)) (congrArg Value.bool (by simp only [decide_eq_false hk0, Bool.true_and, Bool.and_true, Bool.false_and, Bool.and_false, Bool.true_or, Bool.or_true, Bool.false_or, Bool.or_false, Bool.not_true, Bool.not_false]))) rfl ?_
                    refine l_nil ?_
                    refine WE.sub (l' := [(0, _), (1, _), (50, _)]) ⟨rfl, rfl, rfl, trivial⟩ (e_K (J14  w4 ⟨trivial, E⟩))
              refine c_seq fun K15 hK15 => ?_
              have J15 : ∀  (w1 : World), True ∧ Mod [] w w1 → ∀ a, Has 62 [] [(0, .int .i32 (c : Int)), (1, .bool url), (38, .bool (decide ((c : Int) = 43) && !url))] a → K15 a w1 := by
                intro  w7 hI
                obtain ⟨_, E⟩ := hI
                refine hK15 _ _ _ _ ?_
                refine c_cond rfl (fun h38 => ?_) (fun h38 => ?_)
                · skip
                  refine c_skip ?_
                  refine WE.sub (l' := [(0, _), (1, _), (38, _)]) ⟨rfl, rfl, rfl, trivial⟩ (e_K (J9 (decide ((c : Int) = 43) && !url) w7 ⟨(by rw [l62, h38, Bool.true_or]), E⟩))
                · skip
                  by_cases hk0 : (c : Int) = 45
                  · skip
                    refine c_region ?_
                    refine sv (o_mv rfl) rfl ?_
                    refine sv (o_eql rfl rfl) rfl ?_
                    refine sv (o_mv rfl) rfl ?_
                    refine sg rfl (decide_eq_true hk0) (o_mv rfl) rfl ?_
                    refine sv (o_pickT (decide_eq_true hk0) rfl rfl) rfl ?_
                    refine sv (o_as rfl) rfl ?_
                    refine l_nil ?_
                    refine WE.sub (l' := [(0, _), (1, _), (38, _)]) ⟨rfl, rfl, rfl, trivial⟩ (e_K (J9 url w7 ⟨(by rw [l62, h38]; simp only [decide_eq_true hk0, Bool.true_and, Bool.and_true, Bool.false_and, Bool.and_false, Bool.true_or, Bool.or_true, Bool.false_or, Bool.or_false, Bool.not_true, Bool.not_false]), E⟩))
                  · skip
                    refine c_region ?_
                    refine sv (o_mv rfl) rfl ?_
                    refine sv (o_eql rfl rfl) rfl ?_
                    refine sv (o_mv rfl) rfl ?_
                    refine sn rfl (fun e_ => absurd ((decide_eq_false hk0).symm.trans e_) (by decide)) rfl ?_
                    refine sv (o_pickF (decide_eq_false hk0) rfl rfl) rfl ?_
                    refine sv (o_as rfl) rfl ?_
                    refine l_nil ?_
                    refine WE.sub (l' := [(0, _), (1, _), (38, _)]) ⟨rfl, rfl, rfl, trivial⟩ (e_K (J9 false w7 ⟨(by rw [l62, h38]; simp only [decide_eq_false hk0, Bool.true_and, Bool.and_true, Bool.false_and, Bool.and_false, Bool.true_or, Bool.or_true, Bool.false_or, Bool.or_false, Bool.not_true, Bool.not_false]), E⟩))
              by_cases hk0 : (c : Int) = 43
              · skip
                by_cases hk1 : (!url) = true
                · skip
                  refine c_region ?_
                  refine sv (o_mv rfl) rfl ?_
                  refine sv (o_eql rfl rfl) rfl ?_
                  refine sv (o_mv rfl) rfl ?_
                  refine sg rfl (decide_eq_true hk0) (o_mv rfl) rfl ?_
                  refine sg rfl (decide_eq_true hk0) (o_not rfl) rfl ?_
                  refine sv (o_pickT (decide_eq_true hk0) rfl rfl) rfl ?_
                  refine sv ((o_as rfl).to (v' := .bool (decide ((c : Int) = 43) && !url)) (congrArg Value.bool (by simp only [decide_eq_true hk0, hk1, Bool.true_and, Bool.and_true, Bool.false_and, Bool.and_false, Bool.true_or, Bool.or_true, Bool.false_or, Bool.or_false, Bool.not_true, Bool.not_false]))) rfl ?_
                  refine l_nil ?_
                  refine WE.sub (l' := [(0, _), (1, _), (38, _)]) ⟨rfl, rfl, rfl, trivial⟩ (e_K (J15  w3 ⟨trivial, E⟩))
                · skip
                  refine c_region ?_
                  refine sv (o_mv rfl) rfl ?_
                  refine sv (o_eql rfl rfl) rfl ?_
                  refine sv (o_mv rfl) rfl ?_
                  refine sg rfl (decide_eq_true hk0) (o_mv rfl) rfl ?_
                  refine sg rfl (decide_eq_true hk0) (o_not rfl) rfl ?_
                  refine sv (o_pickT (decide_eq_true hk0) rfl rfl) rfl ?_
                  refine sv ((o_as rfl).to (v' := .bool (decide ((c : Int) = 43) && !url)) (congrArg Value.bool (by simp only [decide_eq_true hk0, Bool.eq_false_iff.2 hk1, Bool.true_and, Bool.and_true, Bool.false_and, Bool.and_false, Bool.true_or, Bool.or_true, Bool.false_or, Bool.or_false, Bool.not_true, Bool.not_false]))) rfl ?_
                  refine l_nil ?_
                  refine WE.sub (l' := [(0, _), (1, _), (38, _)]) ⟨rfl, rfl, rfl, trivial⟩ (e_K (J15  w3 ⟨trivial, E⟩))
              · skip
                refine c_region ?_
                refine sv (o_mv rfl) rfl ?_
                refine sv (o_eql rfl rfl) rfl ?_
                refine sv (o_mv rfl) rfl ?_
                refine sn rfl (fun e_ => absurd ((decide_eq_false hk0).symm.trans e_) (by decide)) rfl ?_
                refine sn rfl (fun e_ => absurd ((decide_eq_false hk0).symm.trans e_) (by decide)) rfl ?_
                refine sv (o_pickF (decide_eq_false hk0) rfl rfl) rfl ?_
                refine sv ((o_as rfl).to (v' := .bool (decide ((c : Int) = 43) && !url)) (congrArg Value.bool (by simp only [decide_eq_false hk0, Bool.true_and, Bool.and_true, Bool.false_and, Bool.and_false, Bool.true_or, Bool.or_true, Bool.false_or, Bool.or_false, Bool.not_true, Bool.not_false]))) rfl ?_
                refine l_nil ?_
                refine WE.sub (l' := [(0, _), (1, _), (38, _)]) ⟨rfl, rfl, rfl, trivial⟩ (e_K (J15  w3 ⟨trivial, E⟩))
          by_cases hk0 : 48 ≤ (c : Int)
          · skip
            by_cases hk1 : (c : Int) ≤ 57
            · skip
              refine c_region ?_
              refine sv (o_mv rfl) rfl ?_
              refine sv (o_geq rfl rfl) rfl ?_
              refine sv (o_mv rfl) rfl ?_
              refine sg rfl (decide_eq_true hk0) (o_mv rfl) rfl ?_
              refine sg rfl (decide_eq_true hk0) (o_leq rfl rfl) rfl ?_
              refine sv (o_pickT (decide_eq_true hk0) rfl rfl) rfl ?_
              refine sv ((o_as rfl).to (v' := .bool (kD c)) (congrArg Value.bool (by simp only [kD, decide_eq_true hk0, decide_eq_true hk1, Bool.true_and, Bool.and_true, Bool.false_and, Bool.and_false, Bool.true_or, Bool.or_true, Bool.false_or, Bool.or_false, Bool.not_true, Bool.not_false]))) rfl ?_
              refine l_nil ?_
              refine WE.sub (l' := [(0, _), (1, _), (27, _)]) ⟨rfl, rfl, rfl, trivial⟩ (e_K (J7  w2 ⟨trivial, E⟩))
            · skip
              refine c_region ?_
              refine sv (o_mv rfl) rfl ?_
              refine sv (o_geq rfl rfl) rfl ?_
              refine sv (o_mv rfl) rfl ?_
              refine sg rfl (decide_eq_true hk0) (o_mv rfl) rfl ?_
              refine sg rfl (decide_eq_true hk0) (o_leq rfl rfl) rfl ?_
              refine sv (o_pickT (decide_eq_true hk0) rfl rfl) rfl ?_
              refine sv ((o_as rfl).to (v' := .bool (kD c)) (congrArg Value.bool (by simp only [kD, decide_eq_true hk0, decide_eq_false hk1, Bool.true_and, Bool.and_true, Bool.false_and, Bool.and_false, Bool.true_or, Bool.or_true, Bool.false_or, Bool.or_false, Bool.not_true, Bool.not_false]))) rfl ?_
              refine l_nil ?_
              refine WE.sub (l' := [(0, _), (1, _), (27, _)]) ⟨rfl, rfl, rfl, trivial⟩ (e_K (J7  w2 ⟨trivial, E⟩))
          · skip
            refine c_region ?_
            refine sv (o_mv rfl) rfl ?_
            refine sv (o_geq rfl rfl) rfl ?_
            refine sv (o_mv rfl) rfl ?_
            refine sn rfl (fun e_ => absurd ((decide_eq_false hk0).symm.trans e_) (by decide)) rfl ?_
            refine sn rfl (fun e_ => absurd ((decide_eq_false hk0).symm.trans e_) (by decide)) rfl ?_
            refine sv (o_pickF (decide_eq_false hk0) rfl rfl) rfl ?_
            refine sv ((o_as rfl).to (v' := .bool (kD c)) (congrArg Value.bool (by simp only [kD, decide_eq_false hk0, Bool.true_and, Bool.and_true, Bool.false_and, Bool.and_false, Bool.true_or, Bool.or_true, Bool.false_or, Bool.or_false, Bool.not_true, Bool.not_false]))) rfl ?_
            refine l_nil ?_
            refine WE.sub (l' := [(0, _), (1, _), (27, _)]) ⟨rfl, rfl, rfl, trivial⟩ (e_K (J7  w2 ⟨trivial, E⟩))
      by_cases hk0 : 97 ≤ (c : Int)
      · skip
        by_cases hk1 : (c : Int) ≤ 122
        · skip
          refine c_region ?_
          refine sv (o_mv rfl) rfl ?_
          refine sv (o_geq rfl rfl) rfl ?_
          refine sv (o_mv rfl) rfl ?_
          refine sg rfl (decide_eq_true hk0) (o_mv rfl) rfl ?_
          refine sg rfl (decide_eq_true hk0) (o_leq rfl rfl) rfl ?_
          refine sv (o_pickT (decide_eq_true hk0) rfl rfl) rfl ?_
          refine sv ((o_as rfl).to (v' := .bool (kS c)) (congrArg Value.bool (by simp only [kS, decide_eq_true hk0, decide_eq_true hk1, Bool.true_and, Bool.and_true, Bool.false_and, Bool.and_false, Bool.true_or, Bool.or_true, Bool.false_or, Bool.or_false, Bool.not_true, Bool.not_false]))) rfl ?_
          refine l_nil ?_
          refine WE.sub (l' := [(0, _), (1, _), (16, _)]) ⟨rfl, rfl, rfl, trivial⟩ (e_K (J5  w1 ⟨trivial, E⟩))
        · skip
          refine c_region ?_
          refine sv (o_mv rfl) rfl ?_
          refine sv (o_geq rfl rfl) rfl ?_
          refine sv (o_mv rfl) rfl ?_
          refine sg rfl (decide_eq_true hk0) (o_mv rfl) rfl ?_
          refine sg rfl (decide_eq_true hk0) (o_leq rfl rfl) rfl ?_
          refine sv (o_pickT (decide_eq_true hk0) rfl rfl) rfl ?_
          refine sv ((o_as rfl).to (v' := .bool (kS c)) (congrArg Value.bool (by simp only [kS, decide_eq_true hk0, decide_eq_false hk1, Bool.true_and, Bool.and_true, Bool.false_and, Bool.and_false, Bool.true_or, Bool.or_true, Bool.false_or, Bool.or_false, Bool.not_true, Bool.not_false]))) rfl ?_
          refine l_nil ?_
          refine WE.sub (l' := [(0, _), (1, _), (16, _)]) ⟨rfl, rfl, rfl, trivial⟩ (e_K (J5  w1 ⟨trivial, E⟩))
      · skip
        refine c_region ?_
        refine sv (o_mv rfl) rfl ?_
        refine sv (o_geq rfl rfl) rfl ?_
        refine sv (o_mv rfl) rfl ?_
        refine sn rfl (fun e_ => absurd ((decide_eq_false hk0).symm.trans e_) (by decide)) rfl ?_
        refine sn rfl (fun e_ => absurd ((decide_eq_false hk0).symm.trans e_) (by decide)) rfl ?_
        refine sv (o_pickF (decide_eq_false hk0) rfl rfl) rfl ?_
        refine sv ((o_as rfl).to (v' := .bool (kS c)) (congrArg Value.bool (by simp only [kS, decide_eq_false hk0, Bool.true_and, Bool.and_true, Bool.false_and, Bool.and_false, Bool.true_or, Bool.or_true, Bool.false_or, Bool.or_false, Bool.not_true, Bool.not_false]))) rfl ?_
        refine l_nil ?_
        refine WE.sub (l' := [(0, _), (1, _), (16, _)]) ⟨rfl, rfl, rfl, trivial⟩ (e_K (J5  w1 ⟨trivial, E⟩))
  by_cases hk0 : 65 ≤ (c : Int)
  · skip
    by_cases hk1 : (c : Int) ≤ 90
    · skip
      refine c_region ?_
      refine sv (o_mv rfl) rfl ?_
      refine sv (o_geq rfl rfl) rfl ?_
      refine sv (o_mv rfl) rfl ?_
      refine sg rfl (decide_eq_true hk0) (o_mv rfl) rfl ?_
      refine sg rfl (decide_eq_true hk0) (o_leq rfl rfl) rfl ?_
      refine sv (o_pickT (decide_eq_true hk0) rfl rfl) rfl ?_
      refine sv ((o_as rfl).to (v' := .bool (kG c)) (congrArg Value.bool (by simp only [kG, decide_eq_true hk0, decide_eq_true hk1, Bool.true_and, Bool.and_true, Bool.false_and, Bool.and_false, Bool.true_or, Bool.or_true, Bool.false_or, Bool.or_false, Bool.not_true, Bool.not_false]))) rfl ?_
      refine l_nil ?_
      refine WE.sub (l' := [(0, _), (1, _), (6, _)]) ⟨rfl, rfl, rfl, trivial⟩ (e_K (J3  w ⟨trivial, E⟩))
    · skip
      refine c_region ?_
      refine sv (o_mv rfl) rfl ?_
      refine sv (o_geq rfl rfl) rfl ?_
      refine sv (o_mv rfl) rfl ?_
      refine sg rfl (decide_eq_true hk0) (o_mv rfl) rfl ?_
      refine sg rfl (decide_eq_true hk0) (o_leq rfl rfl) rfl ?_
      refine sv (o_pickT (decide_eq_true hk0) rfl rfl) rfl ?_
      refine sv ((o_as rfl).to (v' := .bool (kG c)) (congrArg Value.bool (by simp only [kG, decide_eq_true hk0, decide_eq_false hk1, Bool.true_and, Bool.and_true, Bool.false_and, Bool.and_false, Bool.true_or, Bool.or_true, Bool.false_or, Bool.or_false, Bool.not_true, Bool.not_false]))) rfl ?_
      refine l_nil ?_
      refine WE.sub (l' := [(0, _), (1, _), (6, _)]) ⟨rfl, rfl, rfl, trivial⟩ (e_K (J3  w ⟨trivial, E⟩))
  · skip
    refine c_region ?_
    refine sv (o_mv rfl) rfl ?_
    refine sv (o_geq rfl rfl) rfl ?_
    refine sv (o_mv rfl) rfl ?_
    refine sn rfl (fun e_ => absurd ((decide_eq_false hk0).symm.trans e_) (by decide)) rfl ?_
    refine sn rfl (fun e_ => absurd ((decide_eq_false hk0).symm.trans e_) (by decide)) rfl ?_
    refine sv (o_pickF (decide_eq_false hk0) rfl rfl) rfl ?_
    refine sv ((o_as rfl).to (v' := .bool (kG c)) (congrArg Value.bool (by simp only [kG, decide_eq_false hk0, Bool.true_and, Bool.and_true, Bool.false_and, Bool.and_false, Bool.true_or, Bool.or_true, Bool.false_or, Bool.or_false, Bool.not_true, Bool.not_false]))) rfl ?_
    refine l_nil ?_
    refine WE.sub (l' := [(0, _), (1, _), (6, _)]) ⟨rfl, rfl, rfl, trivial⟩ (e_K (J3  w ⟨trivial, E⟩))

theorem c_decode (w : World) (s : Str) (url : Bool) (hs : s.length ≤ 140737488351232) : Calls Tryd.prog 62 [S s, .bool url].toArray w (Ret fun u w' => DecR w w' url s u ∧ Mod [] w w') := by
  refine enter Tryd.func62 rfl rfl rfl (l := [(0, _), (1, _)]) ⟨rfl, rfl, trivial⟩ ?_
  have E := Mod.refl [] w
  refine c_seq fun K1 hK1 => ?_
  refine c_region ?_
  refine sv (o_as rfl) rfl ?_
  refine sv (o_as rfl) rfl ?_
  refine l_nil ?_
  refine e_K (hK1 _ _ _ _ ?_)
  refine c_seq fun K2 hK2 => ?_
  refine c_region ?_
  refine sv (o_as rfl) rfl ?_
  refine l_nil ?_
  refine e_K (hK2 _ _ _ _ ?_)
  refine c_seq fun K3 hK3 => ?_
  refine c_region ?_
  refine sv (o_as rfl) rfl ?_
  refine sv (o_as rfl) rfl ?_
  refine l_nil ?_
  refine e_K (hK3 _ _ _ _ ?_)
  refine c_seq fun K4 hK4 => ?_
  refine c_seq fun K5 hK5 => ?_
  refine c_region ?_
  refine sv (o_mv rfl) rfl ?_
  refine s_range Tryd.underlying9 rfl rfl fun gi w1 IT hgi EI => ?_
  have Lgi : w.heap.size ≤ gi := by have := E.size; omega
  replace E := E.then EI
  refine l_nil ?_
  refine e_K (hK5 _ _ _ _ ?_)
  refine c_block ?_
  refine c_loop (σ := Nat × Value × Str) (fun ⟨k, v, bs⟩ => [(0, S s), (1, .bool url), (6, v), (7, .int .u64 (rest url s k : Int)), (8, .int .i64 ((6 * k % 8 : Nat) : Int)), (14, .pointer (some ⟨gi, 0, none⟩))]) (fun ⟨k, v, bs⟩ w1 => k ≤ s.length ∧ (s.take k).all (fun b => (lv url b.toNat).isSome) = true ∧ It w1 gi s k ∧ OwB w1 v bs ∧ bs.length = 6 * k / 8 ∧ (∀ x ∈ ob v, w.heap.size ≤ x) ∧ (∀ x ∈ ob v, x ≠ gi) ∧ Mod [] w w1) (fun ⟨k, v, bs⟩ => s.length - k) (⟨0, .slice none 0 0, []⟩) ⟨rfl, rfl, rfl, rfl, rfl, rfl, trivial⟩ (⟨by omega, by simp, IT, Own.nil _ 5 1, rfl, by simp [ob], by simp [ob], E⟩) ?_
  rintro ⟨k, v, bs⟩ w2 ⟨hp, ha, IT, O, hbl, L0, DI, E⟩
  refine c_seq fun K6 hK6 => ?_
  by_cases hplt : k < s.length
  · skip
    obtain ⟨b, hb⟩ : ∃ b, s[k]? = some b := ⟨_, List.getElem?_eq_getElem hplt⟩
    have hbl8 := b.toNat_lt
    by_cases hbs : b.toNat < 128
    · skip
      skip
      refine c_region ?_
      refine s_next rfl IT hplt (dec_lt hb hbs) rfl fun w3 IT2 EN hzN => ?_
      replace E := E.trans' EN (fun x hx => .inr (by simp at hx; subst hx; exact Lgi))
      replace O := O.mod EN (fun x hx hm => DI x hx (by simpa using hm))
      clear IT
      have IT := IT2
      refine sv (o_ext rfl rfl) rfl ?_
      refine l_nil ?_
      refine e_K (hK6 _ _ _ _ ?_)
      refine c_seq fun K7 hK7 => ?_
      refine c_cond rfl (fun h16 => ?_) (fun h16 => ?_)
      · skip
        skip
        refine c_skip ?_
        refine e_K (hK7 _ _ _ _ ?_)
        refine c_block ?_
        refine c_seq fun K8 hK8 => ?_
        refine c_region ?_
        refine sv (o_ext rfl rfl) rfl ?_
        refine sv (o_as rfl) rfl ?_
        refine l_nil ?_
        refine e_K (hK8 _ _ _ _ ?_)
        refine c_seq fun K9 hK9 => ?_
        refine c_region ?_
        refine sv (o_mv rfl) rfl ?_
        refine sv (o_mv rfl) rfl ?_
        refine sc (o_call ent81 rfl) (c_value _ url b.toNat (by omega)) rfl fun v_ w4 h_ => ?_
        obtain ⟨rfl, E_⟩ := h_
        replace IT := IT.mod0 E_
        replace E := E.then E_
        replace O := O.mod0 E_
        refine sv (o_mv rfl) rfl ?_
        refine sv (o_ext rfl rfl) rfl ?_
        refine sv (o_ext rfl rfl) rfl ?_
        refine sv (o_as rfl) rfl ?_
        refine sv (o_as rfl) rfl ?_
        refine l_nil ?_
        refine e_K (hK9 _ _ _ _ ?_)
        refine c_seq fun K10 hK10 => ?_
        refine c_seq fun K11 hK11 => ?_
        refine c_region ?_
        refine sv (o_mv rfl) rfl ?_
        refine sv (o_not rfl) rfl ?_
        refine l_nil ?_
        refine e_K (hK11 _ _ _ _ ?_)
        refine c_cond rfl (fun h25 => ?_) (fun h25 => ?_)
        · skip
          have hD : decOK url s = false := dec_no hb (by simpa using h25)
          refine c_seq fun K12 hK12 => ?_
          refine c_region ?_
          refine sv (o_as rfl) rfl ?_
          refine sv (o_as rfl) rfl ?_
          refine l_nil ?_
          refine e_K (hK12 _ _ _ _ ?_)
          refine c_ret ?_
          refine e_then (by simp) ?_
          refine e_in (by simp) ?_
          refine e_then (by simp) ?_
          refine e_in (by simp) ?_
          refine e_then (by simp) ?_
          exact ret2 rfl rfl rfl ⟨DecR.no hD, E⟩
        · skip
          obtain ⟨x, hx⟩ : ∃ x, lv url b.toNat = some x := Option.isSome_iff_exists.1 (by simpa using h25)
          have hxl := lv_lt hx
          refine c_skip ?_
          refine e_K (hK10 _ _ _ _ ?_)
          refine c_seq fun K13 hK13 => ?_
          refine c_region ?_
          have hrl := rest_lt url s k
          refine sv (o_mv rfl) rfl ?_
          refine sv ((o_shl rfl rfl (by omega)).to (v' := .int .u64 ((rest url s k * 64 : Nat) : Int)) (by rw [shl6 hrl])) rfl ?_
          refine sv ((o_mv rfl).to (v' := .int .u64 (x : Int)) (by rw [hx]; rfl)) rfl ?_
          refine sv ((o_or rfl rfl).to (v' := .int .u64 ((rest url s k * 64 + x : Nat) : Int)) (by rw [or64 hrl hxl])) rfl ?_
          refine sv (o_mv rfl) rfl ?_
          refine sv (o_addE (r := ((6 * k % 8 + 6 : Nat) : Int)) rfl rfl (by rw [wrap64_in _ (by omega)]; omega)) rfl ?_
          refine sv (o_as rfl) rfl ?_
          refine sv (o_as rfl) rfl ?_
          refine l_nil ?_
          refine e_K (hK13 _ _ _ _ ?_)
          refine c_seq fun K14 hK14 => ?_
          refine c_region ?_
          refine sv (o_mv rfl) rfl ?_
          refine sv (o_geq rfl rfl) rfl ?_
          refine l_nil ?_
          refine e_K (hK14 _ _ _ _ ?_)
          refine c_if rfl (fun h33 => ?_) (fun h33 => ?_)
          · skip
            refine c_seq fun K15 hK15 => ?_
            refine c_region ?_
            refine sv (o_mv rfl) rfl ?_
            refine sv (o_subE (r := ((6 * (k + 1) % 8 : Nat) : Int)) rfl rfl (by rw [wrap64_in _ (by omega)]; omega)) rfl ?_
            refine sv (o_as rfl) rfl ?_
            refine l_nil ?_
            refine e_K (hK15 _ _ _ _ ?_)
            refine c_seq fun K16 hK16 => ?_
            refine c_region ?_
            refine sv (o_mv rfl) rfl ?_
            refine sv (o_mv rfl) rfl ?_
            refine sv (o_mv rfl) rfl ?_
            refine sv (o_shr rfl rfl (by omega)) rfl ?_
            refine sv (o_conv Tryd.underlying96 Tryd.underlying5 rfl) rfl ?_
            refine s_bslice (cs := [_]) sl45 zv5 rfl rfl rfl (by decide) rfl fun g1 w5 N1 => ?_
            have Lg1_E := N1.le E
            have Da0_g1 := N1.own_ne O
            replace IT := IT.mod0 N1.mod
            replace E := E.then N1.mod
            replace O := O.mod0 N1.mod
            have Bg1 := N1.blk
            refine s_append sl45 rfl rfl O (Src.own Tryd.underlying45 (Own.all (cs := [_]) Bg1 rfl (by omega)) (by simp [Value.oneCell'])) (by decide) (by omega) (by omega) rfl fun v1 w6 A1 => ?_
            have Dv1_g1 := A1.ne Da0_g1 Bg1
            have Lv1_E := A1.ge L0 E
            replace Bg1 := Bg1.mod A1.mod (fun hx => Da0_g1 _ hx rfl)
            replace E := E.trans' A1.mod (fun x hx => .inr (L0 x hx))
            replace O := A1.own
            have DI1 := A1.neI DI IT
            replace IT := IT.mod A1.mod (fun hx => DI _ hx rfl)
            obtain ⟨cb, O⟩ := own_byte O rfl
            refine sv (o_as rfl) rfl ?_
            refine l_nil ?_
            refine e_K (hK16 _ _ _ _ ?_)
            refine c_region ?_
            refine sv (o_mv rfl) rfl ?_
            refine sv (o_mv rfl) rfl ?_
            refine sv ((o_shl rfl rfl (by omega)).to (v' := .int .u64 (pw6 (k + 1) : Int)) (by rw [shl_pw rfl])) rfl ?_
            refine sv ((o_sub rfl rfl).to (v' := .int .u64 ((pw6 (k + 1) - 1 : Nat) : Int)) (by have h1 := pw_pos (k + 1); have h2 := pw_le (k + 1); rw [wrapu64_in _ (by omega)]; congr 1; omega)) rfl ?_
            refine sv ((o_and rfl rfl).to (v' := .int .u64 (rest url s (k + 1) : Int)) (by rw [and_m (by omega) (pw_or _), mod_pw, ← rest_succ hb hx])) rfl ?_
            refine sv (o_as rfl) rfl ?_
            refine l_nil ?_
            refine e_in (by simp) ?_
            have hnx : (s.take (k + 1)).all (fun b => (lv url b.toNat).isSome) = true := all_succ (q := fun c => (lv url c).isSome) hb ha (by rw [hx]; rfl)
            exact e_round (σ := Nat × Value × Str) (s := ⟨k, v, bs⟩) (⟨k + 1, v1, (bs ++ [cb])⟩) ⟨rfl, rfl, rfl, rfl, rfl, rfl, trivial⟩ ⟨by omega, hnx, IT, O, by simp; omega, Lv1_E, DI1, E⟩ (by dsimp only; omega)
          · skip
            have hk0 : k % 4 = 0 := by omega
            have e8 : 6 * k % 8 + 6 = 6 * (k + 1) % 8 := by omega
            have e7 : rest url s k * 64 + x = rest url s (k + 1) := by
              rw [rest_succ hb hx, rest_zero hk0]
              unfold pw6
              rw [if_neg (by omega), if_pos (by omega)]
              omega
            rw [e7, e8]
            refine c_skip ?_
            refine e_in (by simp) ?_
            have hnx : (s.take (k + 1)).all (fun b => (lv url b.toNat).isSome) = true := all_succ (q := fun c => (lv url c).isSome) hb ha (by rw [hx]; rfl)
            exact e_round (σ := Nat × Value × Str) (s := ⟨k, v, bs⟩) (⟨k + 1, v, bs⟩) ⟨rfl, rfl, rfl, rfl, rfl, rfl, trivial⟩ ⟨by omega, hnx, IT, O, by omega, L0, DI, E⟩ (by dsimp only; omega)
      · skip
        cases h16
    · skip
      obtain ⟨c, m, hdec, hc128, hc1, hc2⟩ := dec_ge hb (by omega)
      refine c_region ?_
      refine s_next rfl IT hplt (hdec) rfl fun w7 IT2 EN hzN => ?_
      replace E := E.trans' EN (fun x hx => .inr (by simp at hx; subst hx; exact Lgi))
      replace O := O.mod EN (fun x hx hm => DI x hx (by simpa using hm))
      clear IT
      have IT := IT2
      refine sv (o_ext rfl rfl) rfl ?_
      refine l_nil ?_
      refine e_K (hK6 _ _ _ _ ?_)
      refine c_seq fun K17 hK17 => ?_
      refine c_cond rfl (fun h16 => ?_) (fun h16 => ?_)
      · skip
        skip
        refine c_skip ?_
        refine e_K (hK17 _ _ _ _ ?_)
        refine c_block ?_
        refine c_seq fun K18 hK18 => ?_
        refine c_region ?_
        refine sv (o_ext rfl rfl) rfl ?_
        refine sv (o_as rfl) rfl ?_
        refine l_nil ?_
        refine e_K (hK18 _ _ _ _ ?_)
        refine c_seq fun K19 hK19 => ?_
        refine c_region ?_
        refine sv (o_mv rfl) rfl ?_
        refine sv (o_mv rfl) rfl ?_
        refine sc (o_call ent81 rfl) (c_value _ url c (by omega)) rfl fun v_ w8 h_ => ?_
        obtain ⟨rfl, E_⟩ := h_
        replace IT := IT.mod0 E_
        replace E := E.then E_
        replace O := O.mod0 E_
        refine sv (o_mv rfl) rfl ?_
        refine sv (o_ext rfl rfl) rfl ?_
        refine sv (o_ext rfl rfl) rfl ?_
        refine sv (o_as rfl) rfl ?_
        refine sv (o_as rfl) rfl ?_
        refine l_nil ?_
        refine e_K (hK19 _ _ _ _ ?_)
        refine c_seq fun K20 hK20 => ?_
        refine c_seq fun K21 hK21 => ?_
        refine c_region ?_
        refine sv (o_mv rfl) rfl ?_
        refine sv (o_not rfl) rfl ?_
        refine l_nil ?_
        refine e_K (hK21 _ _ _ _ ?_)
        refine c_cond rfl (fun h25 => ?_) (fun h25 => ?_)
        · skip
          have hD : decOK url s = false := dec_no hb (lv_hi url _ (by omega))
          refine c_seq fun K22 hK22 => ?_
          refine c_region ?_
          refine sv (o_as rfl) rfl ?_
          refine sv (o_as rfl) rfl ?_
          refine l_nil ?_
          refine e_K (hK22 _ _ _ _ ?_)
          refine c_ret ?_
          refine e_then (by simp) ?_
          refine e_in (by simp) ?_
          refine e_then (by simp) ?_
          refine e_in (by simp) ?_
          refine e_then (by simp) ?_
          exact ret2 rfl rfl rfl ⟨DecR.no hD, E⟩
        · skip
          rw [lv_hi url c hc128] at h25; cases h25
      · skip
        cases h16
  · skip
    have hs_end := hplt
    have hk : k = s.length := by omega
    have hall : s.all (fun b => (lv url b.toNat).isSome) = true := by rw [List.take_of_length_le (by omega)] at ha; exact ha
    refine c_region ?_
    refine s_next_end rfl IT hs_end rfl ?_
    refine sv (o_ext rfl rfl) rfl ?_
    refine l_nil ?_
    refine e_K (hK6 _ _ _ _ ?_)
    refine c_seq fun K23 hK23 => ?_
    refine c_cond rfl (fun h16 => ?_) (fun h16 => ?_)
    · skip
      cases h16
    · skip
      skip
      refine c_exit ?_
      refine e_then (by simp) ?_
      refine e_then (by simp) ?_
      refine e_hit ?_
      refine e_K (hK4 _ _ _ _ ?_)
      refine c_seq fun K24 hK24 => ?_
      refine c_seq fun K25 hK25 => ?_
      by_cases hk0 : ((6 * k % 8 : Nat) : Int) ≥ 6
      · skip
        refine c_region ?_
        refine sv (o_mv rfl) rfl ?_
        refine sv (o_geq rfl rfl) rfl ?_
        refine sv (o_mv rfl) rfl ?_
        refine sn rfl (fun e_ => absurd ((decide_eq_true hk0).symm.trans e_) (by decide)) rfl ?_
        refine sn rfl (fun e_ => absurd ((decide_eq_true hk0).symm.trans e_) (by decide)) rfl ?_
        refine sv (o_pickT (decide_eq_true hk0) rfl rfl) rfl ?_
        refine l_nil ?_
        refine e_K (hK25 _ _ _ _ ?_)
        refine c_true rfl ?_
        have hD : decOK url s = false := by unfold decOK; rw [hall, ← hk]; simp only [decide_eq_true hk0, Bool.true_and, Bool.and_true, Bool.false_and, Bool.and_false, Bool.true_or, Bool.or_true, Bool.false_or, Bool.or_false, Bool.not_true, Bool.not_false]
        refine c_seq fun K26 hK26 => ?_
        refine c_region ?_
        refine sv (o_as rfl) rfl ?_
        refine sv (o_as rfl) rfl ?_
        refine l_nil ?_
        refine e_K (hK26 _ _ _ _ ?_)
        refine c_ret ?_
        refine e_then (by simp) ?_
        exact ret2 rfl rfl rfl ⟨DecR.no hD, E⟩
      · skip
        by_cases hk1 : (rest url s k : Int) ≠ 0
        · skip
          refine c_region ?_
          refine sv (o_mv rfl) rfl ?_
          refine sv (o_geq rfl rfl) rfl ?_
          refine sv (o_mv rfl) rfl ?_
          refine sg rfl (decide_eq_false hk0) (o_mv rfl) rfl ?_
          refine sg rfl (decide_eq_false hk0) (o_neq rfl rfl) rfl ?_
          refine sv (o_pickF (decide_eq_false hk0) rfl rfl) rfl ?_
          refine l_nil ?_
          refine e_K (hK25 _ _ _ _ ?_)
          refine c_if rfl (fun h53 => ?_) (fun h53 => absurd hk1 h53)
          have hD : decOK url s = false := by unfold decOK; rw [hall, ← hk]; simp only [decide_eq_false hk0, decide_eq_true hk1, Bool.true_and, Bool.and_true, Bool.false_and, Bool.and_false, Bool.true_or, Bool.or_true, Bool.false_or, Bool.or_false, Bool.not_true, Bool.not_false]
          refine c_seq fun K27 hK27 => ?_
          refine c_region ?_
          refine sv (o_as rfl) rfl ?_
          refine sv (o_as rfl) rfl ?_
          refine l_nil ?_
          refine e_K (hK27 _ _ _ _ ?_)
          refine c_ret ?_
          refine e_then (by simp) ?_
          exact ret2 rfl rfl rfl ⟨DecR.no hD, E⟩
        · skip
          refine c_region ?_
          refine sv (o_mv rfl) rfl ?_
          refine sv (o_geq rfl rfl) rfl ?_
          refine sv (o_mv rfl) rfl ?_
          refine sg rfl (decide_eq_false hk0) (o_mv rfl) rfl ?_
          refine sg rfl (decide_eq_false hk0) (o_neq rfl rfl) rfl ?_
          refine sv (o_pickF (decide_eq_false hk0) rfl rfl) rfl ?_
          refine l_nil ?_
          refine e_K (hK25 _ _ _ _ ?_)
          refine c_if rfl (fun h53 => absurd h53 hk1) (fun h53 => ?_)
          have hD : decOK url s = true := by unfold decOK; rw [hall, ← hk]; simp only [decide_eq_false hk0, decide_eq_false hk1, Bool.true_and, Bool.and_true, Bool.false_and, Bool.and_false, Bool.true_or, Bool.or_true, Bool.false_or, Bool.or_false, Bool.not_true, Bool.not_false]
          refine c_skip ?_
          refine e_K (hK24 _ _ _ _ ?_)
          refine c_seq fun K28 hK28 => ?_
          refine c_region ?_
          refine sv (o_mv rfl) rfl ?_
          refine sv (o_as rfl) rfl ?_
          refine sv (o_as rfl) rfl ?_
          refine l_nil ?_
          refine e_K (hK28 _ _ _ _ ?_)
          refine c_ret ?_
          exact ret2 rfl rfl rfl ⟨DecR.yes hD O (by omega) L0, E⟩
end Go.Proofs.YtkhbnhdlelmbnaaDoor.V
