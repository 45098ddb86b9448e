/-
  A part of the proof: states put together slot by slot; pairs in order; insertion; doubled neighbours left out; the pairs that every event needs; a member's value written in place; members put one by one; what stays of a content, as the program and as the document tell it: the same; lists of texts that are built; strings the other way round. No condition of its own.
-/
import Derived.Test.YtkhbnhdlelmbnaaDoorM14
import Derived.Test.YtkhbnhdlelmbnaaDoorM3
import Derived.Test.YtkhbnhdlelmbnaaDoorM12
set_option linter.unusedVariables false
set_option linter.unusedSimpArgs false
set_option maxRecDepth 10000
namespace Go.Proofs.YtkhbnhdlelmbnaaDoor.V
open Go Go.Proofs
theorem ent81 : Ent Tryd.prog 81 := Ent.of Tryd.func81 (by kernel_rfl) (by kernel_rfl)
theorem c_value (w : World) (url : Bool) (c : Nat) (hc : c ≤ 1114111) : Calls Tryd.prog 81 [.int .i32 (c : Int), .bool url].toArray w (Ret fun u w' => u = .tuple #[.int .u64 (((lv url c).getD 0 : Nat) : Int), .bool (lv url c).isSome] ∧ Mod [] w w') := by
  refine enter Tryd.func81 rfl rfl rfl (l := [(0, _), (1, _)]) ⟨rfl, rfl, trivial⟩ ?_
  have E := Mod.refl [] w
  refine c_seq fun K1 hK1 => ?_
  refine c_region ?_
  refine sv (o_as rfl) rfl ?_
  refine sv (o_as rfl) rfl ?_
  refine l_nil ?_
  refine e_K (hK1 _ _ _ _ ?_)
  refine c_seq fun K2 hK2 => ?_
  refine c_block ?_
  refine c_seq fun K3 hK3 => ?_
  have J3 : ∀  (w1 : World), True ∧ Mod [] w w1 → ∀ a, Has 62 [] [(0, .int .i32 (c : Int)), (1, .bool url), (6, .bool (kG c))] a → K3 a w1 := by
    intro  w1 hI
    obtain ⟨_, E⟩ := hI
    refine hK3 _ _ _ _ ?_
    refine c_cond rfl (fun h6 => ?_) (fun h6 => ?_)
    · skip
      refine c_seq fun K4 hK4 => ?_
      refine c_region ?_
      refine sv (o_mv rfl) rfl ?_
      have hr : 65 ≤ c ∧ c ≤ 90 := by simp [kG] at h6; omega
      refine sv ((o_sub rfl rfl).to (v' := .int .i32 ((c - 65 : Nat) : Int)) (by rw [wrapi32_in _ (by omega)]; congr 1; omega)) rfl ?_
      refine sv (o_convN Tryd.underlying21 Tryd.underlying119 rfl (wrapu64_in _ (by omega))) rfl ?_
      refine sv (o_as rfl) rfl ?_
      refine sv (o_as rfl) rfl ?_
      refine l_nil ?_
      refine e_K (hK4 _ _ _ _ ?_)
      refine c_ret ?_
      refine e_in (by simp) ?_
      refine e_then (by simp) ?_
      exact ret2 rfl rfl rfl ⟨by rw [show lv url c = some (c - 65) by rw [lv, if_pos h6]]; rfl, E⟩
    · skip
      refine c_seq fun K5 hK5 => ?_
      have J5 : ∀  (w1 : World), True ∧ Mod [] w w1 → ∀ a, Has 62 [] [(0, .int .i32 (c : Int)), (1, .bool url), (16, .bool (kS c))] a → K5 a w1 := by
        intro  w2 hI
        obtain ⟨_, E⟩ := hI
        refine hK5 _ _ _ _ ?_
        refine c_cond rfl (fun h16 => ?_) (fun h16 => ?_)
        · skip
          refine c_seq fun K6 hK6 => ?_
          refine c_region ?_
          refine sv (o_mv rfl) rfl ?_
          have hr : 97 ≤ c ∧ c ≤ 122 := by simp [kS] at h16; omega
          refine sv ((o_sub rfl rfl).to (v' := .int .i32 ((c - 97 : Nat) : Int)) (by rw [wrapi32_in _ (by omega)]; congr 1; omega)) rfl ?_
          refine sv (o_convN Tryd.underlying21 Tryd.underlying119 rfl (wrapu64_in _ (by omega))) rfl ?_
          refine sv ((o_add rfl rfl).to (v' := .int .u64 ((c - 97 + 26 : Nat) : Int)) (by rw [wrapu64_in _ (by omega)]; rfl)) rfl ?_
          refine sv (o_as rfl) rfl ?_
          refine sv (o_as rfl) rfl ?_
          refine l_nil ?_
          refine e_K (hK6 _ _ _ _ ?_)
          refine c_ret ?_
          refine e_in (by simp) ?_
          refine e_then (by simp) ?_
          exact ret2 rfl rfl rfl ⟨by rw [show lv url c = some (c - 97 + 26) by rw [lv, if_neg (by simp [h6]), if_pos h16]]; rfl, E⟩
        · skip
          refine c_seq fun K7 hK7 => ?_
          have J7 : ∀  (w1 : World), True ∧ Mod [] w w1 → ∀ a, Has 62 [] [(0, .int .i32 (c : Int)), (1, .bool url), (27, .bool (kD c))] a → K7 a w1 := by
            intro  w3 hI
            obtain ⟨_, E⟩ := hI
            refine hK7 _ _ _ _ ?_
            refine c_cond rfl (fun h27 => ?_) (fun h27 => ?_)
            · skip
              refine c_seq fun K8 hK8 => ?_
              refine c_region ?_
              refine sv (o_mv rfl) rfl ?_
              have hr : 48 ≤ c ∧ c ≤ 57 := by simp [kD] at h27; omega
              refine sv ((o_sub rfl rfl).to (v' := .int .i32 ((c - 48 : Nat) : Int)) (by rw [wrapi32_in _ (by omega)]; congr 1; omega)) rfl ?_
              refine sv (o_convN Tryd.underlying21 Tryd.underlying119 rfl (wrapu64_in _ (by omega))) rfl ?_
              refine sv ((o_add rfl rfl).to (v' := .int .u64 ((c - 48 + 52 : Nat) : Int)) (by rw [wrapu64_in _ (by omega)]; rfl)) rfl ?_
              refine sv (o_as rfl) rfl ?_
              refine sv (o_as rfl) rfl ?_
              refine l_nil ?_
              refine e_K (hK8 _ _ _ _ ?_)
              refine c_ret ?_
              refine e_in (by simp) ?_
              refine e_then (by simp) ?_
              exact ret2 rfl rfl rfl ⟨by rw [show lv url c = some (c - 48 + 52) by rw [lv, if_neg (by simp [h6]), if_neg (by simp [h16]), if_pos h27]]; rfl, E⟩
            · skip
              refine c_seq fun K9 hK9 => ?_
              have J9 : ∀ (x : Bool) (w1 : World), x = l62 url c ∧ Mod [] w w1 → ∀ a, Has 62 [] [(0, .int .i32 (c : Int)), (1, .bool url), (38, .bool x)] a → K9 a w1 := by
                intro x w4 hI
                obtain ⟨hx38, E⟩ := hI
                refine hK9 _ _ _ _ ?_
                refine c_cond rfl (fun h38 => ?_) (fun h38 => ?_)
                · skip
                  refine c_seq fun K10 hK10 => ?_
                  refine c_region ?_
                  refine sv (o_as rfl) rfl ?_
                  refine sv (o_as rfl) rfl ?_
                  refine l_nil ?_
                  refine e_K (hK10 _ _ _ _ ?_)
                  refine c_ret ?_
                  refine e_in (by simp) ?_
                  refine e_then (by simp) ?_
                  exact ret2 rfl rfl rfl ⟨by rw [show lv url c = some 62 by rw [lv, if_neg (by simp [h6]), if_neg (by simp [h16]), if_neg (by simp [h27]), if_pos (hx38.symm.trans h38)]]; rfl, E⟩
                · skip
                  refine c_seq fun K11 hK11 => ?_
                  have J11 : ∀ (x : Bool) (w1 : World), x = l63 url c ∧ Mod [] w w1 → ∀ a, Has 62 [] [(0, .int .i32 (c : Int)), (1, .bool url), (50, .bool x)] a → K11 a w1 := by
                    intro x w5 hI
                    obtain ⟨hx50, E⟩ := hI
                    refine hK11 _ _ _ _ ?_
                    refine c_cond rfl (fun h50 => ?_) (fun h50 => ?_)
                    · skip
                      refine c_seq fun K12 hK12 => ?_
                      refine c_region ?_
                      refine sv (o_as rfl) rfl ?_
                      refine sv (o_as rfl) rfl ?_
                      refine l_nil ?_
                      refine e_K (hK12 _ _ _ _ ?_)
                      refine c_ret ?_
                      refine e_in (by simp) ?_
                      refine e_then (by simp) ?_
                      exact ret2 rfl rfl rfl ⟨by rw [show lv url c = some 63 by rw [lv, if_neg (by simp [h6]), if_neg (by simp [h16]), if_neg (by simp [h27]), if_neg (by rw [← hx38, h38]; simp), if_pos (hx50.symm.trans h50)]]; rfl, E⟩
                    · skip
                      refine c_skip ?_
                      refine e_in (by simp) ?_
                      refine e_K (hK2 _ _ _ _ ?_)
                      refine c_seq fun K13 hK13 => ?_
                      refine c_region ?_
                      refine sv (o_as rfl) rfl ?_
                      refine sv (o_as rfl) rfl ?_
                      refine l_nil ?_
                      refine e_K (hK13 _ _ _ _ ?_)
                      refine c_ret ?_
                      exact ret2 rfl rfl rfl ⟨by rw [show lv url c = none by rw [lv, if_neg (by simp [h6]), if_neg (by simp [h16]), if_neg (by simp [h27]), if_neg (by rw [← hx38, h38]; simp), if_neg (by rw [← hx50, h50]; simp)]]; rfl, E⟩
                  refine c_seq fun K14 hK14 => ?_
                  have J14 : ∀  (w1 : World), True ∧ Mod [] w w1 → ∀ a, Has 62 [] [(0, .int .i32 (c : Int)), (1, .bool url), (50, .bool (decide ((c : Int) = 47) && !url))] a → K14 a w1 := by
                    intro  w6 hI
                    obtain ⟨_, E⟩ := hI
                    refine hK14 _ _ _ _ ?_
                    refine c_cond rfl (fun h50 => ?_) (fun h50 => ?_)
                    · skip
                      refine c_skip ?_
                      refine WE.sub (l' := [(0, _), (1, _), (50, _)]) ⟨rfl, rfl, rfl, trivial⟩ (e_K (J11 (decide ((c : Int) = 47) && !url) w6 ⟨(by rw [l63, h50, Bool.true_or]), E⟩))
                    · skip
                      by_cases hk0 : (c : Int) = 95
                      · skip
                        refine c_region ?_
                        refine sv (o_mv rfl) rfl ?_
                        refine sv (o_eql rfl rfl) rfl ?_
                        refine sv (o_mv rfl) rfl ?_
                        refine sg rfl (decide_eq_true hk0) (o_mv rfl) rfl ?_
                        refine sv (o_pickT (decide_eq_true hk0) rfl rfl) rfl ?_
                        refine sv (o_as rfl) rfl ?_
                        refine l_nil ?_
                        refine WE.sub (l' := [(0, _), (1, _), (50, _)]) ⟨rfl, rfl, rfl, trivial⟩ (e_K (J11 url w6 ⟨(by rw [l63, h50]; simp only [decide_eq_true hk0, Bool.true_and, Bool.and_true, Bool.false_and, Bool.and_false, Bool.true_or, Bool.or_true, Bool.false_or, Bool.or_false, Bool.not_true, Bool.not_false]), E⟩))
                      · skip
                        refine c_region ?_
                        refine sv (o_mv rfl) rfl ?_
                        refine sv (o_eql rfl rfl) rfl ?_
                        refine sv (o_mv rfl) rfl ?_
                        refine sn rfl (fun e_ => absurd ((decide_eq_false hk0).symm.trans e_) (by decide)) rfl ?_
                        refine sv (o_pickF (decide_eq_false hk0) rfl rfl) rfl ?_
                        refine sv (o_as rfl) rfl ?_
                        refine l_nil ?_
                        refine WE.sub (l' := [(0, _), (1, _), (50, _)]) ⟨rfl, rfl, rfl, trivial⟩ (e_K (J11 false w6 ⟨(by rw [l63, h50]; simp only [decide_eq_false hk0, Bool.true_and, Bool.and_true, Bool.false_and, Bool.and_false, Bool.true_or, Bool.or_true, Bool.false_or, Bool.or_false, Bool.not_true, Bool.not_false]), E⟩))
                  by_cases hk0 : (c : Int) = 47
                  · skip
                    by_cases hk1 : (!url) = true
                    · skip
                      refine c_region ?_
                      refine sv (o_mv rfl) rfl ?_
                      refine sv (o_eql rfl rfl) rfl ?_
                      refine sv (o_mv rfl) rfl ?_
                      refine sg rfl (decide_eq_true hk0) (o_mv rfl) rfl ?_
                      refine sg rfl (decide_eq_true hk0) (o_not rfl) rfl ?_
                      refine sv (o_pickT (decide_eq_true hk0) rfl rfl) rfl ?_
                      refine sv ((o_as rfl).to (v' := .bool (decide ((c : Int) = 47) && !url)) (congrArg Value.bool (by simp only [decide_eq_true hk0, hk1, Bool.true_and, Bool.and_true, Bool.false_and, Bool.and_false, Bool.true_or, Bool.or_true, Bool.false_or, Bool.or_false, Bool.not_true, Bool.not_false]))) rfl ?_
                      refine l_nil ?_
                      refine WE.sub (l' := [(0, _), (1, _), (50, _)]) ⟨rfl, rfl, rfl, trivial⟩ (e_K (J14  w4 ⟨trivial, E⟩))
                    · skip
                      refine c_region ?_
                      refine sv (o_mv rfl) rfl ?_
                      refine sv (o_eql rfl rfl) rfl ?_
                      refine sv (o_mv rfl) rfl ?_
                      refine sg rfl (decide_eq_true hk0) (o_mv rfl) rfl ?_
                      refine sg rfl (decide_eq_true hk0) (o_not rfl) rfl ?_
                      refine sv (o_pickT (decide_eq_true hk0) rfl rfl) rfl ?_
                      refine sv ((o_as rfl).to (v' := .bool (decide ((c : Int) = 47) && !url)) (congrArg Value.bool (by simp only [decide_eq_true hk0, Bool.eq_false_iff.2 hk1, Bool.true_and, Bool.and_true, Bool.false_and, Bool.and_false, Bool.true_or, Bool.or_true, Bool.false_or, Bool.or_false, Bool.not_true, Bool.not_false]))) rfl ?_
                      refine l_nil ?_
                      refine WE.sub (l' := [(0, _), (1, _), (50, _)]) ⟨rfl, rfl, rfl, trivial⟩ (e_K (J14  w4 ⟨trivial, E⟩))
                  · skip
                    refine c_region ?_
                    refine sv (o_mv rfl) rfl ?_
                    refine sv (o_eql rfl rfl) rfl ?_
                    refine sv (o_mv rfl) rfl ?_
                    refine sn rfl (fun e_ => absurd ((decide_eq_false hk0).symm.trans e_) (by decide)) rfl ?_
                    refine sn rfl (fun e_ => absurd ((decide_eq_false hk0).symm.trans e_) (by decide)) rfl ?_
                    refine sv (o_pickF (decide_eq_false hk0) rfl rfl) rfl ?_
                    refine sv ((o_as rfl).to (v' := .bool (decide ((c : Int) = 47) && !url)) (congrArg Value.bool (by simp only [decide_eq_false hk0, Bool.true_and, Bool.and_true, Bool.false_and, Bool.and_false, Bool.true_or, Bool.or_true, Bool.false_or, Bool.or_false, Bool.not_true, Bool.not_false]))) rfl ?_
                    refine l_nil ?_
                    refine WE.sub (l' := [(0, _), (1, _), (50, _)]) ⟨rfl, rfl, rfl, trivial⟩ (e_K (J14  w4 ⟨trivial, E⟩))
              refine c_seq fun K15 hK15 => ?_
              have J15 : ∀  (w1 : World), True ∧ Mod [] w w1 → ∀ a, Has 62 [] [(0, .int .i32 (c : Int)), (1, .bool url), (38, .bool (decide ((c : Int) = 43) && !url))] a → K15 a w1 := by
                intro  w7 hI
                obtain ⟨_, E⟩ := hI
                refine hK15 _ _ _ _ ?_
                refine c_cond rfl (fun h38 => ?_) (fun h38 => ?_)
                · skip
                  refine c_skip ?_
                  refine WE.sub (l' := [(0, _), (1, _), (38, _)]) ⟨rfl, rfl, rfl, trivial⟩ (e_K (J9 (decide ((c : Int) = 43) && !url) w7 ⟨(by rw [l62, h38, Bool.true_or]), E⟩))
                · skip
                  by_cases hk0 : (c : Int) = 45
                  · skip
                    refine c_region ?_
                    refine sv (o_mv rfl) rfl ?_
                    refine sv (o_eql rfl rfl) rfl ?_
                    refine sv (o_mv rfl) rfl ?_
                    refine sg rfl (decide_eq_true hk0) (o_mv rfl) rfl ?_
                    refine sv (o_pickT (decide_eq_true hk0) rfl rfl) rfl ?_
                    refine sv (o_as rfl) rfl ?_
                    refine l_nil ?_
                    refine WE.sub (l' := [(0, _), (1, _), (38, _)]) ⟨rfl, rfl, rfl, trivial⟩ (e_K (J9 url w7 ⟨(by rw [l62, h38]; simp only [decide_eq_true hk0, Bool.true_and, Bool.and_true, Bool.false_and, Bool.and_false, Bool.true_or, Bool.or_true, Bool.false_or, Bool.or_false, Bool.not_true, Bool.not_false]), E⟩))
                  · skip
                    refine c_region ?_
                    refine sv (o_mv rfl) rfl ?_
                    refine sv (o_eql rfl rfl) rfl ?_
                    refine sv (o_mv rfl) rfl ?_
                    refine sn rfl (fun e_ => absurd ((decide_eq_false hk0).symm.trans e_) (by decide)) rfl ?_
                    refine sv (o_pickF (decide_eq_false hk0) rfl rfl) rfl ?_
                    refine sv (o_as rfl) rfl ?_
                    refine l_nil ?_
                    refine WE.sub (l' := [(0, _), (1, _), (38, _)]) ⟨rfl, rfl, rfl, trivial⟩ (e_K (J9 false w7 ⟨(by rw [l62, h38]; simp only [decide_eq_false hk0, Bool.true_and, Bool.and_true, Bool.false_and, Bool.and_false, Bool.true_or, Bool.or_true, Bool.false_or, Bool.or_false, Bool.not_true, Bool.not_false]), E⟩))
              by_cases hk0 : (c : Int) = 43
              · skip
                by_cases hk1 : (!url) = true
                · skip
                  refine c_region ?_
                  refine sv (o_mv rfl) rfl ?_
                  refine sv (o_eql rfl rfl) rfl ?_
                  refine sv (o_mv rfl) rfl ?_
                  refine sg rfl (decide_eq_true hk0) (o_mv rfl) rfl ?_
                  refine sg rfl (decide_eq_true hk0) (o_not rfl) rfl ?_
                  refine sv (o_pickT (decide_eq_true hk0) rfl rfl) rfl ?_
                  refine sv ((o_as rfl).to (v' := .bool (decide ((c : Int) = 43) && !url)) (congrArg Value.bool (by simp only [decide_eq_true hk0, hk1, Bool.true_and, Bool.and_true, Bool.false_and, Bool.and_false, Bool.true_or, Bool.or_true, Bool.false_or, Bool.or_false, Bool.not_true, Bool.not_false]))) rfl ?_
                  refine l_nil ?_
                  refine WE.sub (l' := [(0, _), (1, _), (38, _)]) ⟨rfl, rfl, rfl, trivial⟩ (e_K (J15  w3 ⟨trivial, E⟩))
                · skip
                  refine c_region ?_
                  refine sv (o_mv rfl) rfl ?_
                  refine sv (o_eql rfl rfl) rfl ?_
                  refine sv (o_mv rfl) rfl ?_
                  refine sg rfl (decide_eq_true hk0) (o_mv rfl) rfl ?_
                  refine sg rfl (decide_eq_true hk0) (o_not rfl) rfl ?_
                  refine sv (o_pickT (decide_eq_true hk0) rfl rfl) rfl ?_
                  refine sv ((o_as rfl).to (v' := .bool (decide ((c : Int) = 43) && !url)) (congrArg Value.bool (by simp only [decide_eq_true hk0, Bool.eq_false_iff.2 hk1, Bool.true_and, Bool.and_true, Bool.false_and, Bool.and_false, Bool.true_or, Bool.or_true, Bool.false_or, Bool.or_false, Bool.not_true, Bool.not_false]))) rfl ?_
                  refine l_nil ?_
                  refine WE.sub (l' := [(0, _), (1, _), (38, _)]) ⟨rfl, rfl, rfl, trivial⟩ (e_K (J15  w3 ⟨trivial, E⟩))
              · skip
                refine c_region ?_
                refine sv (o_mv rfl) rfl ?_
                refine sv (o_eql rfl rfl) rfl ?_
                refine sv (o_mv rfl) rfl ?_
                refine sn rfl (fun e_ => absurd ((decide_eq_false hk0).symm.trans e_) (by decide)) rfl ?_
                refine sn rfl (fun e_ => absurd ((decide_eq_false hk0).symm.trans e_) (by decide)) rfl ?_
                refine sv (o_pickF (decide_eq_false hk0) rfl rfl) rfl ?_
                refine sv ((o_as rfl).to (v' := .bool (decide ((c : Int) = 43) && !url)) (congrArg Value.bool (by simp only [decide_eq_false hk0, Bool.true_and, Bool.and_true, Bool.false_and, Bool.and_false, Bool.true_or, Bool.or_true, Bool.false_or, Bool.or_false, Bool.not_true, Bool.not_false]))) rfl ?_
                refine l_nil ?_
                refine WE.sub (l' := [(0, _), (1, _), (38, _)]) ⟨rfl, rfl, rfl, trivial⟩ (e_K (J15  w3 ⟨trivial, E⟩))
          by_cases hk0 : 48 ≤ (c : Int)
          · skip
            by_cases hk1 : (c : Int) ≤ 57
            · skip
              refine c_region ?_
              refine sv (o_mv rfl) rfl ?_
              refine sv (o_geq rfl rfl) rfl ?_
              refine sv (o_mv rfl) rfl ?_
              refine sg rfl (decide_eq_true hk0) (o_mv rfl) rfl ?_
              refine sg rfl (decide_eq_true hk0) (o_leq rfl rfl) rfl ?_
              refine sv (o_pickT (decide_eq_true hk0) rfl rfl) rfl ?_
              refine sv ((o_as rfl).to (v' := .bool (kD c)) (congrArg Value.bool (by simp only [kD, decide_eq_true hk0, decide_eq_true hk1, Bool.true_and, Bool.and_true, Bool.false_and, Bool.and_false, Bool.true_or, Bool.or_true, Bool.false_or, Bool.or_false, Bool.not_true, Bool.not_false]))) rfl ?_
              refine l_nil ?_
              refine WE.sub (l' := [(0, _), (1, _), (27, _)]) ⟨rfl, rfl, rfl, trivial⟩ (e_K (J7  w2 ⟨trivial, E⟩))
            · skip
              refine c_region ?_
              refine sv (o_mv rfl) rfl ?_
              refine sv (o_geq rfl rfl) rfl ?_
              refine sv (o_mv rfl) rfl ?_
              refine sg rfl (decide_eq_true hk0) (o_mv rfl) rfl ?_
              refine sg rfl (decide_eq_true hk0) (o_leq rfl rfl) rfl ?_
              refine sv (o_pickT (decide_eq_true hk0) rfl rfl) rfl ?_
              refine sv ((o_as rfl).to (v' := .bool (kD c)) (congrArg Value.bool (by simp only [kD, decide_eq_true hk0, decide_eq_false hk1, Bool.true_and, Bool.and_true, Bool.false_and, Bool.and_false, Bool.true_or, Bool.or_true, Bool.false_or, Bool.or_false, Bool.not_true, Bool.not_false]))) rfl ?_
              refine l_nil ?_
              refine WE.sub (l' := [(0, _), (1, _), (27, _)]) ⟨rfl, rfl, rfl, trivial⟩ (e_K (J7  w2 ⟨trivial, E⟩))
          · skip
            refine c_region ?_
            refine sv (o_mv rfl) rfl ?_
            refine sv (o_geq rfl rfl) rfl ?_
            refine sv (o_mv rfl) rfl ?_
            refine sn rfl (fun e_ => absurd ((decide_eq_false hk0).symm.trans e_) (by decide)) rfl ?_
            refine sn rfl (fun e_ => absurd ((decide_eq_false hk0).symm.trans e_) (by decide)) rfl ?_
            refine sv (o_pickF (decide_eq_false hk0) rfl rfl) rfl ?_
            refine sv ((o_as rfl).to (v' := .bool (kD c)) (congrArg Value.bool (by simp only [kD, decide_eq_false hk0, Bool.true_and, Bool.and_true, Bool.false_and, Bool.and_false, Bool.true_or, Bool.or_true, Bool.false_or, Bool.or_false, Bool.not_true, Bool.not_false]))) rfl ?_
            refine l_nil ?_
            refine WE.sub (l' := [(0, _), (1, _), (27, _)]) ⟨rfl, rfl, rfl, trivial⟩ (e_K (J7  w2 ⟨trivial, E⟩))
      by_cases hk0 : 97 ≤ (c : Int)
      · skip
        by_cases hk1 : (c : Int) ≤ 122
        · skip
          refine c_region ?_
          refine sv (o_mv rfl) rfl ?_
          refine sv (o_geq rfl rfl) rfl ?_
          refine sv (o_mv rfl) rfl ?_
          refine sg rfl (decide_eq_true hk0) (o_mv rfl) rfl ?_
          refine sg rfl (decide_eq_true hk0) (o_leq rfl rfl) rfl ?_
          refine sv (o_pickT (decide_eq_true hk0) rfl rfl) rfl ?_
          refine sv ((o_as rfl).to (v' := .bool (kS c)) (congrArg Value.bool (by simp only [kS, decide_eq_true hk0, decide_eq_true hk1, Bool.true_and, Bool.and_true, Bool.false_and, Bool.and_false, Bool.true_or, Bool.or_true, Bool.false_or, Bool.or_false, Bool.not_true, Bool.not_false]))) rfl ?_
          refine l_nil ?_
          refine WE.sub (l' := [(0, _), (1, _), (16, _)]) ⟨rfl, rfl, rfl, trivial⟩ (e_K (J5  w1 ⟨trivial, E⟩))
        · skip
          refine c_region ?_
          refine sv (o_mv rfl) rfl ?_
          refine sv (o_geq rfl rfl) rfl ?_
          refine sv (o_mv rfl) rfl ?_
          refine sg rfl (decide_eq_true hk0) (o_mv rfl) rfl ?_
          refine sg rfl (decide_eq_true hk0) (o_leq rfl rfl) rfl ?_
          refine sv (o_pickT (decide_eq_true hk0) rfl rfl) rfl ?_
          refine sv ((o_as rfl).to (v' := .bool (kS c)) (congrArg Value.bool (by simp only [kS, decide_eq_true hk0, decide_eq_false hk1, Bool.true_and, Bool.and_true, Bool.false_and, Bool.and_false, Bool.true_or, Bool.or_true, Bool.false_or, Bool.or_false, Bool.not_true, Bool.not_false]))) rfl ?_
          refine l_nil ?_
          refine WE.sub (l' := [(0, _), (1, _), (16, _)]) ⟨rfl, rfl, rfl, trivial⟩ (e_K (J5  w1 ⟨trivial, E⟩))
      · skip
        refine c_region ?_
        refine sv (o_mv rfl) rfl ?_
        refine sv (o_geq rfl rfl) rfl ?_
        refine sv (o_mv rfl) rfl ?_
        refine sn rfl (fun e_ => absurd ((decide_eq_false hk0).symm.trans e_) (by decide)) rfl ?_
        refine sn rfl (fun e_ => absurd ((decide_eq_false hk0).symm.trans e_) (by decide)) rfl ?_
        refine sv (o_pickF (decide_eq_false hk0) rfl rfl) rfl ?_
        refine sv ((o_as rfl).to (v' := .bool (kS c)) (congrArg Value.bool (by simp only [kS, decide_eq_false hk0, Bool.true_and, Bool.and_true, Bool.false_and, Bool.and_false, Bool.true_or, Bool.or_true, Bool.false_or, Bool.or_false, Bool.not_true, Bool.not_false]))) rfl ?_
        refine l_nil ?_
        refine WE.sub (l' := [(0, _), (1, _), (16, _)]) ⟨rfl, rfl, rfl, trivial⟩ (e_K (J5  w1 ⟨trivial, E⟩))
  by_cases hk0 : 65 ≤ (c : Int)
  · skip
    by_cases hk1 : (c : Int) ≤ 90
    · skip
      refine c_region ?_
      refine sv (o_mv rfl) rfl ?_
      refine sv (o_geq rfl rfl) rfl ?_
      refine sv (o_mv rfl) rfl ?_
      refine sg rfl (decide_eq_true hk0) (o_mv rfl) rfl ?_
      refine sg rfl (decide_eq_true hk0) (o_leq rfl rfl) rfl ?_
      refine sv (o_pickT (decide_eq_true hk0) rfl rfl) rfl ?_
      refine sv ((o_as rfl).to (v' := .bool (kG c)) (congrArg Value.bool (by simp only [kG, decide_eq_true hk0, decide_eq_true hk1, Bool.true_and, Bool.and_true, Bool.false_and, Bool.and_false, Bool.true_or, Bool.or_true, Bool.false_or, Bool.or_false, Bool.not_true, Bool.not_false]))) rfl ?_
      refine l_nil ?_
      refine WE.sub (l' := [(0, _), (1, _), (6, _)]) ⟨rfl, rfl, rfl, trivial⟩ (e_K (J3  w ⟨trivial, E⟩))
    · skip
      refine c_region ?_
      refine sv (o_mv rfl) rfl ?_
      refine sv (o_geq rfl rfl) rfl ?_
      refine sv (o_mv rfl) rfl ?_
      refine sg rfl (decide_eq_true hk0) (o_mv rfl) rfl ?_
      refine sg rfl (decide_eq_true hk0) (o_leq rfl rfl) rfl ?_
      refine sv (o_pickT (decide_eq_true hk0) rfl rfl) rfl ?_
      refine sv ((o_as rfl).to (v' := .bool (kG c)) (congrArg Value.bool (by simp only [kG, decide_eq_true hk0, decide_eq_false hk1, Bool.true_and, Bool.and_true, Bool.false_and, Bool.and_false, Bool.true_or, Bool.or_true, Bool.false_or, Bool.or_false, Bool.not_true, Bool.not_false]))) rfl ?_
      refine l_nil ?_
      refine WE.sub (l' := [(0, _), (1, _), (6, _)]) ⟨rfl, rfl, rfl, trivial⟩ (e_K (J3  w ⟨trivial, E⟩))
  · skip
    refine c_region ?_
    refine sv (o_mv rfl) rfl ?_
    refine sv (o_geq rfl rfl) rfl ?_
    refine sv (o_mv rfl) rfl ?_
    refine sn rfl (fun e_ => absurd ((decide_eq_false hk0).symm.trans e_) (by decide)) rfl ?_
    refine sn rfl (fun e_ => absurd ((decide_eq_false hk0).symm.trans e_) (by decide)) rfl ?_
    refine sv (o_pickF (decide_eq_false hk0) rfl rfl) rfl ?_
    refine sv ((o_as rfl).to (v' := .bool (kG c)) (congrArg Value.bool (by simp only [kG, decide_eq_false hk0, Bool.true_and, Bool.and_true, Bool.false_and, Bool.and_false, Bool.true_or, Bool.or_true, Bool.false_or, Bool.or_false, Bool.not_true, Bool.not_false]))) rfl ?_
    refine l_nil ?_
    refine WE.sub (l' := [(0, _), (1, _), (6, _)]) ⟨rfl, rfl, rfl, trivial⟩ (e_K (J3  w ⟨trivial, E⟩))

theorem c_decode (w : World) (s : Str) (url : Bool) (hs : s.length ≤ 140737488351232) : Calls Tryd.prog 62 [S s, .bool url].toArray w (Ret fun u w' => DecR w w' url s u ∧ Mod [] w w') := by
  refine enter Tryd.func62 rfl rfl rfl (l := [(0, _), (1, _)]) ⟨rfl, rfl, trivial⟩ ?_
  have E := Mod.refl [] w
  refine c_seq fun K1 hK1 => ?_
  refine c_region ?_
  refine sv (o_as rfl) rfl ?_
  refine sv (o_as rfl) rfl ?_
  refine l_nil ?_
  refine e_K (hK1 _ _ _ _ ?_)
  refine c_seq fun K2 hK2 => ?_
  refine c_region ?_
  refine sv (o_as rfl) rfl ?_
  refine l_nil ?_
  refine e_K (hK2 _ _ _ _ ?_)
  refine c_seq fun K3 hK3 => ?_
  refine c_region ?_
  refine sv (o_as rfl) rfl ?_
  refine sv (o_as rfl) rfl ?_
  refine l_nil ?_
  refine e_K (hK3 _ _ _ _ ?_)
  refine c_seq fun K4 hK4 => ?_
  refine c_seq fun K5 hK5 => ?_
  refine c_region ?_
  refine sv (o_mv rfl) rfl ?_
  refine s_range Tryd.underlying9 rfl rfl fun gi w1 IT hgi EI => ?_
  have Lgi : w.heap.size ≤ gi := by have := E.size; omega
  replace E := E.then EI
  refine l_nil ?_
  refine e_K (hK5 _ _ _ _ ?_)
  refine c_block ?_
  refine c_loop (σ := Nat × Value × Str) (fun ⟨k, v, bs⟩ => [(0, S s), (1, .bool url), (6, v), (7, .int .u64 (rest url s k : Int)), (8, .int .i64 ((6 * k % 8 : Nat) : Int)), (14, .pointer (some ⟨gi, 0, none⟩))]) (fun ⟨k, v, bs⟩ w1 => k ≤ s.length ∧ (s.take k).all (fun b => (lv url b.toNat).isSome) = true ∧ It w1 gi s k ∧ OwB w1 v bs ∧ bs.length = 6 * k / 8 ∧ (∀ x ∈ ob v, w.heap.size ≤ x) ∧ (∀ x ∈ ob v, x ≠ gi) ∧ Mod [] w w1) (fun ⟨k, v, bs⟩ => s.length - k) (⟨0, .slice none 0 0, []⟩) ⟨rfl, rfl, rfl, rfl, rfl, rfl, trivial⟩ (⟨by omega, by simp, IT, Own.nil _ 5 1, rfl, by simp [ob], by simp [ob], E⟩) ?_
  rintro ⟨k, v, bs⟩ w2 ⟨hp, ha, IT, O, hbl, L0, DI, E⟩
  refine c_seq fun K6 hK6 => ?_
  by_cases hplt : k < s.length
  · skip
    obtain ⟨b, hb⟩ : ∃ b, s[k]? = some b := ⟨_, List.getElem?_eq_getElem hplt⟩
    have hbl8 := b.toNat_lt
    by_cases hbs : b.toNat < 128
    · skip
      skip
      refine c_region ?_
      refine s_next rfl IT hplt (dec_lt hb hbs) rfl fun w3 IT2 EN hzN => ?_
      replace E := E.trans' EN (fun x hx => .inr (by simp at hx; subst hx; exact Lgi))
      replace O := O.mod EN (fun x hx hm => DI x hx (by simpa using hm))
      clear IT
      have IT := IT2
      refine sv (o_ext rfl rfl) rfl ?_
      refine l_nil ?_
      refine e_K (hK6 _ _ _ _ ?_)
      refine c_seq fun K7 hK7 => ?_
      refine c_cond rfl (fun h16 => ?_) (fun h16 => ?_)
      · skip
        skip
        refine c_skip ?_
        refine e_K (hK7 _ _ _ _ ?_)
        refine c_block ?_
        refine c_seq fun K8 hK8 => ?_
        refine c_region ?_
        refine sv (o_ext rfl rfl) rfl ?_
        refine sv (o_as rfl) rfl ?_
        refine l_nil ?_
        refine e_K (hK8 _ _ _ _ ?_)
        refine c_seq fun K9 hK9 => ?_
        refine c_region ?_
        refine sv (o_mv rfl) rfl ?_
        refine sv (o_mv rfl) rfl ?_
        refine sc (o_call ent81 rfl) (c_value _ url b.toNat (by omega)) rfl fun v_ w4 h_ => ?_
        obtain ⟨rfl, E_⟩ := h_
        replace IT := IT.mod0 E_
        replace E := E.then E_
        replace O := O.mod0 E_
        refine sv (o_mv rfl) rfl ?_
        refine sv (o_ext rfl rfl) rfl ?_
        refine sv (o_ext rfl rfl) rfl ?_
        refine sv (o_as rfl) rfl ?_
        refine sv (o_as rfl) rfl ?_
        refine l_nil ?_
        refine e_K (hK9 _ _ _ _ ?_)
        refine c_seq fun K10 hK10 => ?_
        refine c_seq fun K11 hK11 => ?_
        refine c_region ?_
        refine sv (o_mv rfl) rfl ?_
        refine sv (o_not rfl) rfl ?_
        refine l_nil ?_
        refine e_K (hK11 _ _ _ _ ?_)
        refine c_cond rfl (fun h25 => ?_) (fun h25 => ?_)
        · skip
          have hD : decOK url s = false := dec_no hb (by simpa using h25)
          refine c_seq fun K12 hK12 => ?_
          refine c_region ?_
          refine sv (o_as rfl) rfl ?_
          refine sv (o_as rfl) rfl ?_
          refine l_nil ?_
          refine e_K (hK12 _ _ _ _ ?_)
          refine c_ret ?_
          refine e_then (by simp) ?_
          refine e_in (by simp) ?_
          refine e_then (by simp) ?_
          refine e_in (by simp) ?_
          refine e_then (by simp) ?_
          exact ret2 rfl rfl rfl ⟨DecR.no hD, E⟩
        · skip
          obtain ⟨x, hx⟩ : ∃ x, lv url b.toNat = some x := Option.isSome_iff_exists.1 (by simpa using h25)
          have hxl := lv_lt hx
          refine c_skip ?_
          refine e_K (hK10 _ _ _ _ ?_)
          refine c_seq fun K13 hK13 => ?_
          refine c_region ?_
          have hrl := rest_lt url s k
          refine sv (o_mv rfl) rfl ?_
          refine sv ((o_shl rfl rfl (by omega)).to (v' := .int .u64 ((rest url s k * 64 : Nat) : Int)) (by rw [shl6 hrl])) rfl ?_
          refine sv ((o_mv rfl).to (v' := .int .u64 (x : Int)) (by rw [hx]; rfl)) rfl ?_
          refine sv ((o_or rfl rfl).to (v' := .int .u64 ((rest url s k * 64 + x : Nat) : Int)) (by rw [or64 hrl hxl])) rfl ?_
          refine sv (o_mv rfl) rfl ?_
          refine sv (o_addE (r := ((6 * k % 8 + 6 : Nat) : Int)) rfl rfl (by rw [wrap64_in _ (by omega)]; omega)) rfl ?_
          refine sv (o_as rfl) rfl ?_
          refine sv (o_as rfl) rfl ?_
          refine l_nil ?_
          refine e_K (hK13 _ _ _ _ ?_)
          refine c_seq fun K14 hK14 => ?_
          refine c_region ?_
          refine sv (o_mv rfl) rfl ?_
          refine sv (o_geq rfl rfl) rfl ?_
          refine l_nil ?_
          refine e_K (hK14 _ _ _ _ ?_)
          refine c_if rfl (fun h33 => ?_) (fun h33 => ?_)
          · skip
            refine c_seq fun K15 hK15 => ?_
            refine c_region ?_
            refine sv (o_mv rfl) rfl ?_
            refine sv (o_subE (r := ((6 * (k + 1) % 8 : Nat) : Int)) rfl rfl (by rw [wrap64_in _ (by omega)]; omega)) rfl ?_
            refine sv (o_as rfl) rfl ?_
            refine l_nil ?_
            refine e_K (hK15 _ _ _ _ ?_)
            refine c_seq fun K16 hK16 => ?_
            refine c_region ?_
            refine sv (o_mv rfl) rfl ?_
            refine sv (o_mv rfl) rfl ?_
            refine sv (o_mv rfl) rfl ?_
            refine sv (o_shr rfl rfl (by omega)) rfl ?_
            refine sv (o_conv Tryd.underlying96 Tryd.underlying5 rfl) rfl ?_
            refine s_bslice (cs := [_]) sl45 zv5 rfl rfl rfl (by decide) rfl fun g1 w5 N1 => ?_
            have Lg1_E := N1.le E
            have Da0_g1 := N1.own_ne O
            replace IT := IT.mod0 N1.mod
            replace E := E.then N1.mod
            replace O := O.mod0 N1.mod
            have Bg1 := N1.blk
            refine s_append sl45 rfl rfl O (Src.own Tryd.underlying45 (Own.all (cs := [_]) Bg1 rfl (by omega)) (by simp [Value.oneCell'])) (by decide) (by omega) (by omega) rfl fun v1 w6 A1 => ?_
            have Dv1_g1 := A1.ne Da0_g1 Bg1
            have Lv1_E := A1.ge L0 E
            replace Bg1 := Bg1.mod A1.mod (fun hx => Da0_g1 _ hx rfl)
            replace E := E.trans' A1.mod (fun x hx => .inr (L0 x hx))
            replace O := A1.own
            have DI1 := A1.neI DI IT
            replace IT := IT.mod A1.mod (fun hx => DI _ hx rfl)
            obtain ⟨cb, O⟩ := own_byte O rfl
            refine sv (o_as rfl) rfl ?_
            refine l_nil ?_
            refine e_K (hK16 _ _ _ _ ?_)
            refine c_region ?_
            refine sv (o_mv rfl) rfl ?_
            refine sv (o_mv rfl) rfl ?_
            refine sv ((o_shl rfl rfl (by omega)).to (v' := .int .u64 (pw6 (k + 1) : Int)) (by rw [shl_pw rfl])) rfl ?_
            refine sv ((o_sub rfl rfl).to (v' := .int .u64 ((pw6 (k + 1) - 1 : Nat) : Int)) (by have h1 := pw_pos (k + 1); have h2 := pw_le (k + 1); rw [wrapu64_in _ (by omega)]; congr 1; omega)) rfl ?_
            refine sv ((o_and rfl rfl).to (v' := .int .u64 (rest url s (k + 1) : Int)) (by rw [and_m (by omega) (pw_or _), mod_pw, ← rest_succ hb hx])) rfl ?_
            refine sv (o_as rfl) rfl ?_
            refine l_nil ?_
            refine e_in (by simp) ?_
            have hnx : (s.take (k + 1)).all (fun b => (lv url b.toNat).isSome) = true := all_succ (q := fun c => (lv url c).isSome) hb ha (by rw [hx]; rfl)
            exact e_round (σ := Nat × Value × Str) (s := ⟨k, v, bs⟩) (⟨k + 1, v1, (bs ++ [cb])⟩) ⟨rfl, rfl, rfl, rfl, rfl, rfl, trivial⟩ ⟨by omega, hnx, IT, O, by simp; omega, Lv1_E, DI1, E⟩ (by dsimp only; omega)
          · skip
            have hk0 : k % 4 = 0 := by omega
            have e8 : 6 * k % 8 + 6 = 6 * (k + 1) % 8 := by omega
            have e7 : rest url s k * 64 + x = rest url s (k + 1) := by
              rw [rest_succ hb hx, rest_zero hk0]
              unfold pw6
              rw [if_neg (by omega), if_pos (by omega)]
              omega
            rw [e7, e8]
            refine c_skip ?_
            refine e_in (by simp) ?_
            have hnx : (s.take (k + 1)).all (fun b => (lv url b.toNat).isSome) = true := all_succ (q := fun c => (lv url c).isSome) hb ha (by rw [hx]; rfl)
            exact e_round (σ := Nat × Value × Str) (s := ⟨k, v, bs⟩) (⟨k + 1, v, bs⟩) ⟨rfl, rfl, rfl, rfl, rfl, rfl, trivial⟩ ⟨by omega, hnx, IT, O, by omega, L0, DI, E⟩ (by dsimp only; omega)
      · skip
        cases h16
    · skip
      obtain ⟨c, m, hdec, hc128, hc1, hc2⟩ := dec_ge hb (by omega)
      refine c_region ?_
      refine s_next rfl IT hplt (hdec) rfl fun w7 IT2 EN hzN => ?_
      replace E := E.trans' EN (fun x hx => .inr (by simp at hx; subst hx; exact Lgi))
      replace O := O.mod EN (fun x hx hm => DI x hx (by simpa using hm))
      clear IT
      have IT := IT2
      refine sv (o_ext rfl rfl) rfl ?_
      refine l_nil ?_
      refine e_K (hK6 _ _ _ _ ?_)
      refine c_seq fun K17 hK17 => ?_
      refine c_cond rfl (fun h16 => ?_) (fun h16 => ?_)
      · skip
        skip
        refine c_skip ?_
        refine e_K (hK17 _ _ _ _ ?_)
        refine c_block ?_
        refine c_seq fun K18 hK18 => ?_
        refine c_region ?_
        refine sv (o_ext rfl rfl) rfl ?_
        refine sv (o_as rfl) rfl ?_
        refine l_nil ?_
        refine e_K (hK18 _ _ _ _ ?_)
        refine c_seq fun K19 hK19 => ?_
        refine c_region ?_
        refine sv (o_mv rfl) rfl ?_
        refine sv (o_mv rfl) rfl ?_
        refine sc (o_call ent81 rfl) (c_value _ url c (by omega)) rfl fun v_ w8 h_ => ?_
        obtain ⟨rfl, E_⟩ := h_
        replace IT := IT.mod0 E_
        replace E := E.then E_
        replace O := O.mod0 E_
        refine sv (o_mv rfl) rfl ?_
        refine sv (o_ext rfl rfl) rfl ?_
        refine sv (o_ext rfl rfl) rfl ?_
        refine sv (o_as rfl) rfl ?_
        refine sv (o_as rfl) rfl ?_
        refine l_nil ?_
        refine e_K (hK19 _ _ _ _ ?_)
        refine c_seq fun K20 hK20 => ?_
        refine c_seq fun K21 hK21 => ?_
        refine c_region ?_
        refine sv (o_mv rfl) rfl ?_
        refine sv (o_not rfl) rfl ?_
        refine l_nil ?_
        refine e_K (hK21 _ _ _ _ ?_)
        refine c_cond rfl (fun h25 => ?_) (fun h25 => ?_)
        · skip
          have hD : decOK url s = false := dec_no hb (lv_hi url _ (by omega))
          refine c_seq fun K22 hK22 => ?_
          refine c_region ?_
          refine sv (o_as rfl) rfl ?_
          refine sv (o_as rfl) rfl ?_
          refine l_nil ?_
          refine e_K (hK22 _ _ _ _ ?_)
          refine c_ret ?_
          refine e_then (by simp) ?_
          refine e_in (by simp) ?_
          refine e_then (by simp) ?_
          refine e_in (by simp) ?_
          refine e_then (by simp) ?_
          exact ret2 rfl rfl rfl ⟨DecR.no hD, E⟩
        · skip
          rw [lv_hi url c hc128] at h25; cases h25
      · skip
        cases h16
  · skip
    have hs_end := hplt
    have hk : k = s.length := by omega
    have hall : s.all (fun b => (lv url b.toNat).isSome) = true := by rw [List.take_of_length_le (by omega)] at ha; exact ha
    refine c_region ?_
    refine s_next_end rfl IT hs_end rfl ?_
    refine sv (o_ext rfl rfl) rfl ?_
    refine l_nil ?_
    refine e_K (hK6 _ _ _ _ ?_)
    refine c_seq fun K23 hK23 => ?_
    refine c_cond rfl (fun h16 => ?_) (fun h16 => ?_)
    · skip
      cases h16
    · skip
      skip
      refine c_exit ?_
      refine e_then (by simp) ?_
      refine e_then (by simp) ?_
      refine e_hit ?_
      refine e_K (hK4 _ _ _ _ ?_)
      refine c_seq fun K24 hK24 => ?_
      refine c_seq fun K25 hK25 => ?_
      by_cases hk0 : ((6 * k % 8 : Nat) : Int) ≥ 6
      · skip
        refine c_region ?_
        refine sv (o_mv rfl) rfl ?_
        refine sv (o_geq rfl rfl) rfl ?_
        refine sv (o_mv rfl) rfl ?_
        refine sn rfl (fun e_ => absurd ((decide_eq_true hk0).symm.trans e_) (by decide)) rfl ?_
        refine sn rfl (fun e_ => absurd ((decide_eq_true hk0).symm.trans e_) (by decide)) rfl ?_
        refine sv (o_pickT (decide_eq_true hk0) rfl rfl) rfl ?_
        refine l_nil ?_
        refine e_K (hK25 _ _ _ _ ?_)
        refine c_true rfl ?_
        have hD : decOK url s = false := by unfold decOK; rw [hall, ← hk]; simp only [decide_eq_true hk0, Bool.true_and, Bool.and_true, Bool.false_and, Bool.and_false, Bool.true_or, Bool.or_true, Bool.false_or, Bool.or_false, Bool.not_true, Bool.not_false]
        refine c_seq fun K26 hK26 => ?_
        refine c_region ?_
        refine sv (o_as rfl) rfl ?_
        refine sv (o_as rfl) rfl ?_
        refine l_nil ?_
        refine e_K (hK26 _ _ _ _ ?_)
        refine c_ret ?_
        refine e_then (by simp) ?_
        exact ret2 rfl rfl rfl ⟨DecR.no hD, E⟩
      · skip
        by_cases hk1 : (rest url s k : Int) ≠ 0
        · skip
          refine c_region ?_
          refine sv (o_mv rfl) rfl ?_
          refine sv (o_geq rfl rfl) rfl ?_
          refine sv (o_mv rfl) rfl ?_
          refine sg rfl (decide_eq_false hk0) (o_mv rfl) rfl ?_
          refine sg rfl (decide_eq_false hk0) (o_neq rfl rfl) rfl ?_
          refine sv (o_pickF (decide_eq_false hk0) rfl rfl) rfl ?_
          refine l_nil ?_
          refine e_K (hK25 _ _ _ _ ?_)
          refine c_if rfl (fun h53 => ?_) (fun h53 => absurd hk1 h53)
          have hD : decOK url s = false := by unfold decOK; rw [hall, ← hk]; simp only [decide_eq_false hk0, decide_eq_true hk1, Bool.true_and, Bool.and_true, Bool.false_and, Bool.and_false, Bool.true_or, Bool.or_true, Bool.false_or, Bool.or_false, Bool.not_true, Bool.not_false]
          refine c_seq fun K27 hK27 => ?_
          refine c_region ?_
          refine sv (o_as rfl) rfl ?_
          refine sv (o_as rfl) rfl ?_
          refine l_nil ?_
          refine e_K (hK27 _ _ _ _ ?_)
          refine c_ret ?_
          refine e_then (by simp) ?_
          exact ret2 rfl rfl rfl ⟨DecR.no hD, E⟩
        · skip
          refine c_region ?_
          refine sv (o_mv rfl) rfl ?_
          refine sv (o_geq rfl rfl) rfl ?_
          refine sv (o_mv rfl) rfl ?_
          refine sg rfl (decide_eq_false hk0) (o_mv rfl) rfl ?_
          refine sg rfl (decide_eq_false hk0) (o_neq rfl rfl) rfl ?_
          refine sv (o_pickF (decide_eq_false hk0) rfl rfl) rfl ?_
          refine l_nil ?_
          refine e_K (hK25 _ _ _ _ ?_)
          refine c_if rfl (fun h53 => absurd h53 hk1) (fun h53 => ?_)
          have hD : decOK url s = true := by unfold decOK; rw [hall, ← hk]; simp only [decide_eq_false hk0, decide_eq_false hk1, Bool.true_and, Bool.and_true, Bool.false_and, Bool.and_false, Bool.true_or, Bool.or_true, Bool.false_or, Bool.or_false, Bool.not_true, Bool.not_false]
          refine c_skip ?_
          refine e_K (hK24 _ _ _ _ ?_)
          refine c_seq fun K28 hK28 => ?_
          refine c_region ?_
          refine sv (o_mv rfl) rfl ?_
          refine sv (o_as rfl) rfl ?_
          refine sv (o_as rfl) rfl ?_
          refine l_nil ?_
          refine e_K (hK28 _ _ _ _ ?_)
          refine c_ret ?_
          exact ret2 rfl rfl rfl ⟨DecR.yes hD O (by omega) L0, E⟩
end Go.Proofs.YtkhbnhdlelmbnaaDoor.V

set_option linter.unusedVariables false
set_option linter.unusedSimpArgs false
set_option maxRecDepth 10000
namespace Go.Proofs.YtkhbnhdlelmbnaaDoor.V
open Go Go.Proofs
end Go.Proofs.YtkhbnhdlelmbnaaDoor.V

set_option linter.unusedVariables false
set_option linter.unusedSimpArgs false
namespace Go.Proofs.YtkhbnhdlelmbnaaDoor.V
open Go
end Go.Proofs.YtkhbnhdlelmbnaaDoor.V

set_option linter.unusedVariables false
set_option linter.unusedSimpArgs false
namespace Go.Proofs.YtkhbnhdlelmbnaaDoor.V
open Go
theorem pairs_one {xs : List Pair} : ∀ x ∈ xs, ∀ c ∈ Pair.cells x, c.oneCell' = true := by
  intro x _ c hc
  simp at hc
  rcases hc with rfl | rfl <;> rfl
theorem Own.pairs {w : World} {e : Nat} {v : Value} {xs : List Pair} (A : List Nat) (h : Own w e 2 v xs.length ((xs.map Pair.cells).flatten)) (hA : ∀ x ∈ ob v, x ∉ A) : Rep A w (pairsD xs) v := Own.flat h (fun _ _ => rfl) pairs_one rfl hA
/-- insertion behind all that don't stand above -/
def insP (x : Pair) (S : List Pair) : List Pair := S.filter (fun y => !plt x y) ++ [x] ++ S.filter (fun y => plt x y)
def isortP (xs : List Pair) (k : Nat) : List Pair := (xs.take k).foldl (fun S x => insP x S) []
end Go.Proofs.YtkhbnhdlelmbnaaDoor.V

set_option linter.unusedVariables false
set_option linter.unusedSimpArgs false
namespace Go.Proofs.YtkhbnhdlelmbnaaDoor.V
open Go
def crS : Str := [109, 46, 114, 111, 111, 109, 46, 99, 114, 101, 97, 116, 101]
def pwS : Str := [109, 46, 114, 111, 111, 109, 46, 112, 111, 119, 101, 114, 95, 108, 101, 118, 101, 108, 115]
def mbS : Str := [109, 46, 114, 111, 111, 109, 46, 109, 101, 109, 98, 101, 114]
def ndP (snd : Str) : List Pair := [⟨crS, []⟩, ⟨pwS, []⟩, ⟨mbS, snd⟩]
end Go.Proofs.YtkhbnhdlelmbnaaDoor.V

set_option linter.unusedVariables false
set_option linter.unusedSimpArgs false
namespace Go.Proofs.YtkhbnhdlelmbnaaDoor.V
open Go
theorem JV.rows_setv {A : List Nat} {w : World} {m : List (Str × JV)} {y : Str × JV} {x : JV} {vs us : List Value} {i : Nat} (h : Reps A w (m.map JV.Dp).flatten vs) (hy : m[i]? = some y) (hx : Reps A w x.D us) :
    Reps A w ((m.set i (y.1, x)).map JV.Dp).flatten (vs.take (i * 7 + 1) ++ us ++ vs.drop (i * 7 + 1 + 6)) := by
  have hi := (List.getElem?_eq_some_iff.1 hy).1
  have h1 := JV.rows_set (p := (y.1, x)) h hi (JV.Dp_reps (p := (y.1, x)) hx)
  have h2 := Reps.row_of_flat (JV.Dp_all m) h i (JV.Dp y) (by simp [hy])
  obtain ⟨u, us', he, h3, _⟩ := h2
  obtain rfl := h3.v_eq
  have h4 : vs[i * 7]? = some (S y.1) := by
    have := congrArg (fun l => l[0]?) he
    simpa [List.getElem?_take, List.getElem?_drop] using this
  have h5 : vs.take (i * 7 + 1) = vs.take (i * 7) ++ [S y.1] := by rw [List.take_add_one, h4]; rfl
  rw [h5, show i * 7 + 1 + 6 = (i + 1) * 7 by omega]
  simpa using h1
theorem JV.obj_repsN {A : List Nat} {w : World} {m : List (Str × JV)} {am : Option Addr} {cm n : Nat} (hn : m.length = n) (R : Rep A w (.sl 7 (m.map JV.Dp)) (.slice am n cm)) : Reps A w (JV.obj m).D [.int .i64 5, .bool false, .int .i64 0, S [], .slice none 0 0, .slice am n cm] := by
  subst hn
  exact JV.obj_reps R
end Go.Proofs.YtkhbnhdlelmbnaaDoor.V

set_option linter.unusedVariables false
set_option linter.unusedSimpArgs false
namespace Go.Proofs.YtkhbnhdlelmbnaaDoor.V
open Go
theorem JV.tbl_obj (m : List (Str × JV)) : (JV.obj m).tbl = m := by simp [JV.tbl, JV.obj, JV.kind, JV.map]
theorem putM_len {β : Type} {m : List (Str × β)} {k : Str} {x : β} (h : ascM m) : (putM m k x).length ≤ m.length + 1 := by
  have key : ∀ {r : List (Str × β)}, (r.filter fun p => bl p.1 k).length + (r.filter fun p => bl k p.1).length ≤ r.length := by
    intro r
    induction r with
    | nil => simp
    | cons p r ih =>
      by_cases h1 : bl p.1 k = true
      · have h2 := bl_asymm h1
        simp [h1, h2]
        omega
      · by_cases h2 : bl k p.1 = true
        · simp [h1, h2]
          omega
        · simp [h1, h2]
          omega
  have := key (r := m)
  simp only [putM, List.length_append, List.length_singleton]
  omega
def putAll (m : List (Str × JV)) (k : Nat) : List (Str × JV) := (m.take k).foldl (fun a p => putM a p.1 p.2) []
theorem putAll_zero (m : List (Str × JV)) : putAll m 0 = [] := by simp [putAll]
theorem putAll_succ {m : List (Str × JV)} {k : Nat} {p : Str × JV} (h : m[k]? = some p) : putAll m (k + 1) = putM (putAll m k) p.1 p.2 := by
  have hlt := (List.getElem?_eq_some_iff.1 h).1
  rw [putAll, List.take_succ_eq_append_getElem hlt, (List.getElem?_eq_some_iff.1 h).2, List.foldl_append]
  rfl
theorem putAll_asc (m : List (Str × JV)) (k : Nat) : ascM (putAll m k) := by
  unfold putAll
  generalize m.take k = l
  suffices ∀ (l a : List (Str × JV)), ascM a → ascM (l.foldl (fun a p => putM a p.1 p.2) a) from this l [] List.Pairwise.nil
  intro l
  induction l with
  | nil => intro a h; exact h
  | cons p r ih => intro a h; exact ih _ (ascM_put h)
theorem putAll_len (m : List (Str × JV)) (k : Nat) : (putAll m k).length ≤ k := by
  induction k with
  | zero => simp [putAll]
  | succ k ih =>
    rcases Nat.lt_or_ge k m.length with h | h
    · rw [putAll_succ (List.getElem?_eq_getElem h)]
      have := putM_len (k := (m[k]).1) (x := (m[k]).2) (putAll_asc m k)
      omega
    · have : putAll m (k + 1) = putAll m k := by rw [putAll, putAll, List.take_of_length_le h, List.take_of_length_le (by omega)]
      rw [this]
      omega
end Go.Proofs.YtkhbnhdlelmbnaaDoor.V

set_option linter.unusedVariables false
set_option linter.unusedSimpArgs false
namespace Go.Proofs.YtkhbnhdlelmbnaaDoor.V
open Go
abbrev kCreate : Str := [109, 46, 114, 111, 111, 109, 46, 99, 114, 101, 97, 116, 101]
abbrev kThird : Str := [116, 104, 105, 114, 100, 95, 112, 97, 114, 116, 121, 95, 105, 110, 118, 105, 116, 101]
abbrev kSigned : Str := [115, 105, 103, 110, 101, 100]
abbrev k_member : Str := [109, 46, 114, 111, 111, 109, 46, 109, 101, 109, 98, 101, 114]
abbrev l_member : List Str := [[106, 111, 105, 110, 95, 97, 117, 116, 104, 111, 114, 105, 115, 101, 100, 95, 118, 105, 97, 95, 117, 115, 101, 114, 115, 95, 115, 101, 114, 118, 101, 114], [109, 101, 109, 98, 101, 114, 115, 104, 105, 112]]
abbrev k_join_rules : Str := [109, 46, 114, 111, 111, 109, 46, 106, 111, 105, 110, 95, 114, 117, 108, 101, 115]
abbrev l_join_rules : List Str := [[97, 108, 108, 111, 119], [106, 111, 105, 110, 95, 114, 117, 108, 101]]
abbrev k_power_levels : Str := [109, 46, 114, 111, 111, 109, 46, 112, 111, 119, 101, 114, 95, 108, 101, 118, 101, 108, 115]
abbrev l_power_levels : List Str := [[98, 97, 110], [101, 118, 101, 110, 116, 115], [101, 118, 101, 110, 116, 115, 95, 100, 101, 102, 97, 117, 108, 116], [105, 110, 118, 105, 116, 101], [107, 105, 99, 107], [114, 101, 100, 97, 99, 116], [115, 116, 97, 116, 101, 95, 100, 101, 102, 97, 117, 108, 116], [117, 115, 101, 114, 115], [117, 115, 101, 114, 115, 95, 100, 101, 102, 97, 117, 108, 116]]
abbrev k_history_visibility : Str := [109, 46, 114, 111, 111, 109, 46, 104, 105, 115, 116, 111, 114, 121, 95, 118, 105, 115, 105, 98, 105, 108, 105, 116, 121]
abbrev l_history_visibility : List Str := [[104, 105, 115, 116, 111, 114, 121, 95, 118, 105, 115, 105, 98, 105, 108, 105, 116, 121]]
abbrev k_redaction : Str := [109, 46, 114, 111, 111, 109, 46, 114, 101, 100, 97, 99, 116, 105, 111, 110]
abbrev l_redaction : List Str := [[114, 101, 100, 97, 99, 116, 115]]
def keptK (kind : Str) : List Str :=
  if kind = k_member then l_member else
  if kind = k_join_rules then l_join_rules else
  if kind = k_power_levels then l_power_levels else
  if kind = k_history_visibility then l_history_visibility else
  if kind = k_redaction then l_redaction else
  []
namespace JV
def putG (v : JV) (acc : List (Str × JV)) (k : Str) : List (Str × JV) := match v.get k with
  | some x => putM acc k x
  | none => acc
/-- the members of a content that stay, put one by one -/
def keep (v : JV) (K : List Str) : List (Str × JV) := K.foldl (putG v) []
def third (v : JV) : JV := (v.get kThird).getD nul
def contentM (kind : Str) (v : JV) : List (Str × JV) := match v.third.get kSigned with
  | some y => if kind = k_member then putM (v.keep (keptK kind)) kThird (obj [(kSigned, y)]) else v.keep (keptK kind)
  | none => v.keep (keptK kind)
/-- what the program's Content answers -/
def content (kind : Str) (v : JV) : JV := if kind = kCreate then v else obj (contentM kind v)
def stay0 (kind : Str) (p : Str × JV) : Option (Str × JV) := if p.1 ∈ keptK kind then some p else none
def stay (kind : Str) (p : Str × JV) : Option (Str × JV) :=
  if p.1 = kThird ∧ kind = k_member ∧ p.2.kind = 5 then match look p.2.map kSigned with
    | some y => some (p.1, obj [(kSigned, y)])
    | none => stay0 kind p
  else stay0 kind p
/-- .. and the document's -/
def contentR (kind : Str) (v : JV) : JV := if kind = kCreate then v else if v.kind ≠ 5 then obj [] else obj (v.map.filterMap (stay kind))
end JV
section
variable {β : Type}
theorem look_filterMap {f : Str × β → Option (Str × β)} (hf : ∀ p q, f p = some q → q.1 = p.1) : ∀ {m : List (Str × β)} {k : Str}, ascM m → look (m.filterMap f) k = ((look m k).bind fun x => f (k, x)).map (·.2)
  | [], k, _ => rfl
  | p :: r, k, h => by
    have ih := look_filterMap hf (m := r) (k := k) (List.Pairwise.of_cons h)
    cases hp : f p with
    | none =>
      rw [List.filterMap_cons_none hp, ih]
      by_cases hk : p.1 = k
      · subst hk
        have hn : look r p.1 = none := look_none_of fun j y hy e => by
          have := List.rel_of_pairwise_cons h (List.mem_of_getElem? hy)
          rw [e, bl_irrefl] at this
          cases this
        rw [hn, look, if_pos rfl]
        show _ = Option.map _ (f p)
        rw [hp]
        rfl
      · rw [look, if_neg hk]
    | some q =>
      rw [List.filterMap_cons_some hp, look]
      have hq := hf p q hp
      by_cases hk : p.1 = k
      · subst hk
        rw [if_pos hq, look, if_pos rfl]
        show _ = Option.map _ (f p)
        rw [hp]
        rfl
      · rw [if_neg (by rw [hq]; exact hk), ih, look, if_neg hk]
theorem ascM_filterMap {f : Str × β → Option (Str × β)} (hf : ∀ p q, f p = some q → q.1 = p.1) {m : List (Str × β)} (h : ascM m) : ascM (m.filterMap f) := by
  unfold ascM at h ⊢
  rw [List.pairwise_filterMap]
  refine h.imp ?_
  intro a b hab c hc d hd
  rw [hf a c hc, hf b d hd]
  exact hab
end
namespace JV
theorem stay0_key {kind : Str} {p q : Str × JV} (h : stay0 kind p = some q) : q.1 = p.1 := by
  unfold stay0 at h
  split at h
  · injection h with h; rw [h]
  · cases h
theorem stay_key (kind : Str) (p q : Str × JV) (h : stay kind p = some q) : q.1 = p.1 := by
  unfold stay at h
  split at h
  · split at h
    · injection h with h; rw [← h]
    · exact stay0_key h
  · exact stay0_key h
theorem putG_asc {v : JV} {a : List (Str × JV)} {k : Str} (h : ascM a) : ascM (putG v a k) := by
  unfold putG
  split
  · exact ascM_put h
  · exact h
theorem foldG_asc {v : JV} : ∀ {K : List Str} {a : List (Str × JV)}, ascM a → ascM (K.foldl (putG v) a)
  | [], a, h => h
  | k :: K, a, h => foldG_asc (K := K) (a := putG v a k) (putG_asc h)
theorem keep_asc (v : JV) (K : List Str) : ascM (v.keep K) := foldG_asc List.Pairwise.nil
theorem look_putG {v : JV} {a : List (Str × JV)} {k k' : Str} : look (putG v a k) k' = if k' = k then (v.get k).or (look a k') else look a k' := by
  unfold putG
  cases h : v.get k with
  | none => simp
  | some x =>
    simp only [look_put]
    by_cases hk : k' = k <;> simp [hk]
theorem look_foldG {v : JV} {k' : Str} : ∀ {K : List Str} {a : List (Str × JV)}, look (K.foldl (putG v) a) k' = if k' ∈ K then (v.get k').or (look a k') else look a k'
  | [], a => by simp
  | k :: K, a => by
    rw [List.foldl_cons, look_foldG, look_putG]
    by_cases hk : k' = k
    · subst hk
      by_cases h : k' ∈ K <;> simp [h]
      cases v.get k' <;> simp
    · by_cases h : k' ∈ K <;> simp [h, hk]
theorem look_keep {v : JV} {k' : Str} {K : List Str} : look (v.keep K) k' = if k' ∈ K then v.get k' else none := by
  rw [keep, look_foldG]
  simp [look]
theorem third_not (kind : Str) : kThird ∉ keptK kind := by
  unfold keptK
  repeat' split
  all_goals decide
theorem content_eq {kind : Str} {v : JV} (h : ascM v.map) : content kind v = contentR kind v := by
  unfold content contentR
  split
  · rfl
  · by_cases h5 : v.kind = 5
    · rw [if_neg (by simp [h5])]
      congr 1
      refine ascM_ext ?_ (ascM_filterMap (stay_key kind) h) fun k => ?_
      · unfold contentM
        split
        · split
          · exact ascM_put (keep_asc _ _)
          · exact keep_asc _ _
        · exact keep_asc _ _
      · rw [look_filterMap (stay_key kind) h]
        have hg : ∀ k, v.get k = look v.map k := fun k => by simp [JV.get, h5]
        have hk0 : ∀ x, (stay0 kind (k, x)).map (·.2) = if k ∈ keptK kind then some x else none := fun x => by
          unfold stay0
          split <;> simp_all
        have hkeep : look (v.keep (keptK kind)) k = (look v.map k).bind fun x => (stay0 kind (k, x)).map (·.2) := by
          rw [look_keep, hg]
          cases look v.map k with
          | none => simp
          | some x => simp only [Option.bind_some, hk0]
        by_cases hkt : k = kThird
        · subst hkt
          cases hl : look v.map kThird with
          | none =>
            have ht : v.third.get kSigned = none := by simp [third, hg, hl, JV.get, nul, JV.kind]
            simp only [contentM, ht, hkeep, hl]
            rfl
          | some x =>
            have ht : v.third = x := by simp [third, hg, hl]
            have hx : v.third.get kSigned = if x.kind = 5 then look x.map kSigned else none := by rw [ht]; rfl
            simp only [Option.bind_some]
            by_cases hx5 : x.kind = 5
            · rw [if_pos hx5] at hx
              cases hy : look x.map kSigned with
              | none =>
                rw [hy] at hx
                have hs : stay kind (kThird, x) = stay0 kind (kThird, x) := by
                  unfold stay
                  split
                  · simp [hy]
                  · rfl
                simp only [contentM, hx, hkeep, hl, hs]
                rfl
              | some y =>
                rw [hy] at hx
                by_cases hm : kind = k_member
                · have hs : stay kind (kThird, x) = some (kThird, obj [(kSigned, y)]) := by
                    unfold stay
                    rw [if_pos ⟨rfl, hm, hx5⟩]
                    simp [hy]
                  simp only [contentM, hx, if_pos hm, look_put, hs]
                  simp
                · have hs : stay kind (kThird, x) = stay0 kind (kThird, x) := by
                    unfold stay
                    rw [if_neg (fun e => hm e.2.1)]
                  simp only [contentM, hx, if_neg hm, hkeep, hl, hs]
                  rfl
            · rw [if_neg hx5] at hx
              have hs : stay kind (kThird, x) = stay0 kind (kThird, x) := by
                unfold stay
                rw [if_neg (fun e => hx5 e.2.2)]
              simp only [contentM, hx, hkeep, hl, hs]
              rfl
        · have hs : ∀ x, stay kind (k, x) = stay0 kind (k, x) := fun x => by
            unfold stay
            rw [if_neg (fun e => hkt e.1)]
          have hc : look (contentM kind v) k = look (v.keep (keptK kind)) k := by
            unfold contentM
            split
            · split
              · rw [look_put, if_neg hkt]
              · rfl
            · rfl
          rw [hc, hkeep]
          cases look v.map k with
          | none => simp
          | some x => simp only [Option.bind_some, hs]
    · rw [if_pos h5]
      have hg : ∀ k, v.get k = none := fun k => by simp [JV.get, h5]
      have ht : v.third.get kSigned = none := by
        have : v.third = nul := by simp [third, hg]
        rw [this]
        simp [JV.get, nul, JV.kind]
      have hK : ∀ K : List Str, v.keep K = [] := fun K => by
        refine ascM_ext (keep_asc v K) List.Pairwise.nil fun k => ?_
        rw [look_keep, hg]
        simp [look]
      congr 1
      simp [contentM, ht, hK]
end JV
end Go.Proofs.YtkhbnhdlelmbnaaDoor.V

set_option linter.unusedVariables false
set_option linter.unusedSimpArgs false
namespace Go.Proofs.YtkhbnhdlelmbnaaDoor.V
open Go
theorem strs_blk {A : List Nat} {w : World} {g e : Nat} {xs : List Str} (B : Blk w g e (xs.map S)) (hl : xs.length ≤ 1000) (hA : g ∉ A) : Rep A w (strD xs) (.slice (some ⟨g, 0, none⟩) xs.length xs.length) := by
  have hf : ∀ ys : List Str, (ys.map fun s => [S s]).flatten = ys.map S := fun ys => by
    induction ys with
    | nil => rfl
    | cons a r ih => simp [ih]
  have O : Own w e 1 (.slice (some ⟨g, 0, none⟩) xs.length xs.length) xs.length ((xs.map fun s => [S s]).flatten) := by
    rw [hf]
    exact Own.all B (by simp) (by omega)
  exact Own.flat O (fun _ _ => rfl) (fun x _ c hc => by simp at hc; subst hc; rfl) rfl (by simpa [ob] using hA)
end Go.Proofs.YtkhbnhdlelmbnaaDoor.V
