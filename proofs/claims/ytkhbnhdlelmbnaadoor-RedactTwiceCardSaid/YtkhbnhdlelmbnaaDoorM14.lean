/-
  A part of the proof: the document's names: its answers in the words of the walk; words of 32 bits, and bytes, as UInt32 and UInt8: each operation in their own words; the digest in plain Lean; blocks taken in, one behind the other; what stands behind the bytes; the digest's bytes; the digest of bytes; the reference's digest is the digest; slices of arrays; a slice's type changed in name alone; one byte of a slice of the call's own is written; letters that stand for bytes: their numbers, whether they stand for bytes, in plain Lean. No condition of its own.
-/
import Derived.Test.YtkhbnhdlelmbnaaDoorM13
import Derived.Test.YtkhbnhdlelmbnaaDoorM3
set_option linter.unusedVariables false
set_option linter.unusedSimpArgs false
set_option maxRecDepth 10000
namespace Go.Proofs.YtkhbnhdlelmbnaaDoor.V
open Go Go.Proofs
theorem ent78 : Ent Tryd.prog 78 := Ent.of Tryd.func78 (by kernel_rfl) (by kernel_rfl)
theorem ent77 : Ent Tryd.prog 77 := Ent.of Tryd.func77 (by kernel_rfl) (by kernel_rfl)
theorem ent54 : Ent Tryd.prog 54 := Ent.of Tryd.func54 (by kernel_rfl) (by kernel_rfl)
theorem ent59 : Ent Tryd.prog 59 := Ent.of Tryd.func59 (by kernel_rfl) (by kernel_rfl)
theorem ent52 : Ent Tryd.prog 52 := Ent.of Tryd.func52 (by kernel_rfl) (by kernel_rfl)
theorem ent53 : Ent Tryd.prog 53 := Ent.of Tryd.func53 (by kernel_rfl) (by kernel_rfl)
theorem ent55 : Ent Tryd.prog 55 := Ent.of Tryd.func55 (by kernel_rfl) (by kernel_rfl)
theorem ent83 : Ent Tryd.prog 83 := Ent.of Tryd.func83 (by kernel_rfl) (by kernel_rfl)
theorem ent82 : Ent Tryd.prog 82 := Ent.of Tryd.func82 (by kernel_rfl) (by kernel_rfl)
theorem c_cut' (w : World) (s : Str) (hs : s.length < 4294967281) (hM : MaxL w) : Calls Tryd.prog 77 [S s, S [58]].toArray w (Ret fun u w' => u = .tuple #[S (s.take (colonAt s)), S (s.drop (colonAt s + 1)), .bool (decide (colonAt s < s.length))] ∧ Mod [] w w') := by
  have := c_cut w s hs hM
  rw [cut_colon'] at this
  exact this

theorem c_server (w : World) (s : Str) (hs : s.length < 4294967281) (hM : MaxL w) : Calls Tryd.prog 53 [S s].toArray w (Ret fun u w' => u = .bool (serverB s) ∧ Mod [] w w') := by
  refine enter Tryd.func53 rfl rfl rfl (l := [(0, _)]) ⟨rfl, trivial⟩ ?_
  have E := Mod.refl [] w
  refine c_seq fun K1 hK1 => ?_
  refine c_region ?_
  refine sv (o_as rfl) rfl ?_
  refine l_nil ?_
  refine e_K (hK1 _ _ _ _ ?_)
  refine c_seq fun K2 hK2 => ?_
  refine c_region ?_
  refine sv (o_mv rfl) rfl ?_
  refine sc (o_call ent77 rfl) (c_cut' _ s hs (hM.mod0 E)) rfl fun v_ w1 h_ => ?_
  obtain ⟨rfl, E_⟩ := h_
  replace E := E.then E_
  refine sv (o_mv rfl) rfl ?_
  refine sv (o_ext rfl rfl) rfl ?_
  refine sv (o_ext rfl rfl) rfl ?_
  refine sv (o_ext rfl rfl) rfl ?_
  refine sv (o_as rfl) rfl ?_
  refine sv (o_as rfl) rfl ?_
  refine sv (o_as rfl) rfl ?_
  refine l_nil ?_
  refine e_K (hK2 _ _ _ _ ?_)
  refine c_seq fun K3 hK3 => ?_
  refine c_region ?_
  refine sv (o_mv rfl) rfl ?_
  refine sc (o_call ent54 rfl) (c_all _ (s.take (colonAt s)) 78 qServer ent78 (fun w c h1 h2 => c_kServer w c h1 h2) qServer_lt) rfl fun v_ w2 h_ => ?_
  obtain ⟨rfl, E_⟩ := h_
  replace E := E.then E_
  refine sv (o_as rfl) rfl ?_
  refine l_nil ?_
  refine e_K (hK3 _ _ _ _ ?_)
  refine c_seq fun K4 hK4 => ?_
  by_cases hk0 : (allB qServer (s.take (colonAt s))) = true
  · skip
    by_cases hk1 : (s.length : Int) ≤ 255
    · skip
      by_cases hk2 : (!decide (colonAt s < s.length)) = true
      · skip
        refine c_region ?_
        refine sv (o_mv rfl) rfl ?_
        refine sv (o_mv rfl) rfl ?_
        refine sg rfl (hk0) (o_mv rfl) rfl ?_
        refine sg rfl (hk0) (o_slen Tryd.underlying9 rfl) rfl ?_
        refine sg rfl (hk0) (o_leq rfl rfl) rfl ?_
        refine sv (o_pickT (hk0) rfl rfl) rfl ?_
        refine sv (o_mv rfl) rfl ?_
        refine sg rfl (decide_eq_true hk1) (o_mv rfl) rfl ?_
        refine sg rfl (decide_eq_true hk1) (o_not rfl) rfl ?_
        refine sg rfl (decide_eq_true hk1) (o_mv rfl) rfl ?_
        refine sn rfl (fun e_ => absurd ((hk2).symm.trans e_) (by decide)) rfl ?_
        refine sn rfl (fun e_ => absurd ((hk2).symm.trans e_) (by decide)) rfl ?_
        refine sn rfl (fun e_ => absurd ((hk2).symm.trans e_) (by decide)) rfl ?_
        refine sn rfl (fun e_ => absurd ((hk2).symm.trans e_) (by decide)) rfl ?_
        refine snu rfl rfl rfl ?_
        refine snu rfl rfl rfl ?_
        refine sn rfl (fun e_ => absurd ((hk2).symm.trans e_) (by decide)) rfl ?_
        refine sg rfl (decide_eq_true hk1) (o_pickT (hk2) rfl rfl) rfl ?_
        refine sv (o_pickT (decide_eq_true hk1) rfl rfl) rfl ?_
        refine sv (o_as rfl) rfl ?_
        refine l_nil ?_
        refine e_K (hK4 _ _ _ _ ?_)
        refine c_ret ?_
        exact ret1 rfl rfl ⟨congrArg Value.bool (by rw [serverB, server_e1, server_e2, len_e3]; simp only [hk0, decide_eq_true hk1, hk2, Bool.true_and, Bool.and_true, Bool.false_and, Bool.and_false, Bool.true_or, Bool.or_true, Bool.false_or, Bool.or_false, Bool.not_true, Bool.not_false]), E⟩
      · skip
        by_cases hk3 : ((s.drop (colonAt s + 1)).length : Int) ≤ 5
        · skip
          by_cases hk4 : (allB kD (s.drop (colonAt s + 1))) = true
          · skip
            refine c_region ?_
            refine sv (o_mv rfl) rfl ?_
            refine sv (o_mv rfl) rfl ?_
            refine sg rfl (hk0) (o_mv rfl) rfl ?_
            refine sg rfl (hk0) (o_slen Tryd.underlying9 rfl) rfl ?_
            refine sg rfl (hk0) (o_leq rfl rfl) rfl ?_
            refine sv (o_pickT (hk0) rfl rfl) rfl ?_
            refine sv (o_mv rfl) rfl ?_
            refine sg rfl (decide_eq_true hk1) (o_mv rfl) rfl ?_
            refine sg rfl (decide_eq_true hk1) (o_not rfl) rfl ?_
            refine sg rfl (decide_eq_true hk1) (o_mv rfl) rfl ?_
            refine sg rfl (Bool.eq_false_iff.2 hk2) (o_mv rfl) rfl ?_
            refine sg rfl (Bool.eq_false_iff.2 hk2) (o_slen Tryd.underlying9 rfl) rfl ?_
            refine sg rfl (Bool.eq_false_iff.2 hk2) (o_leq rfl rfl) rfl ?_
            refine sg rfl (Bool.eq_false_iff.2 hk2) (o_mv rfl) rfl ?_
            refine sg rfl (decide_eq_true hk3) (o_mv rfl) rfl ?_
            refine sgc rfl (decide_eq_true hk3) (o_call ent54 rfl) (c_all _ (s.drop (colonAt s + 1)) 58 kD ent58 (fun w c h1 h2 => c_digit w c) kD_lt) rfl fun v_ w3 h_ => ?_
            obtain ⟨rfl, E_⟩ := h_
            replace E := E.then E_
            refine sg rfl (Bool.eq_false_iff.2 hk2) (o_pickT (decide_eq_true hk3) rfl rfl) rfl ?_
            refine sg rfl (decide_eq_true hk1) (o_pickF (Bool.eq_false_iff.2 hk2) rfl rfl) rfl ?_
            refine sv (o_pickT (decide_eq_true hk1) rfl rfl) rfl ?_
            refine sv (o_as rfl) rfl ?_
            refine l_nil ?_
            refine e_K (hK4 _ _ _ _ ?_)
            refine c_ret ?_
            exact ret1 rfl rfl ⟨congrArg Value.bool (by rw [serverB, server_e1, server_e2, len_e3]; simp only [hk0, decide_eq_true hk1, Bool.eq_false_iff.2 hk2, decide_eq_true hk3, hk4, Bool.true_and, Bool.and_true, Bool.false_and, Bool.and_false, Bool.true_or, Bool.or_true, Bool.false_or, Bool.or_false, Bool.not_true, Bool.not_false]), E⟩
          · skip
            refine c_region ?_
            refine sv (o_mv rfl) rfl ?_
            refine sv (o_mv rfl) rfl ?_
            refine sg rfl (hk0) (o_mv rfl) rfl ?_
            refine sg rfl (hk0) (o_slen Tryd.underlying9 rfl) rfl ?_
            refine sg rfl (hk0) (o_leq rfl rfl) rfl ?_
            refine sv (o_pickT (hk0) rfl rfl) rfl ?_
            refine sv (o_mv rfl) rfl ?_
            refine sg rfl (decide_eq_true hk1) (o_mv rfl) rfl ?_
            refine sg rfl (decide_eq_true hk1) (o_not rfl) rfl ?_
            refine sg rfl (decide_eq_true hk1) (o_mv rfl) rfl ?_
            refine sg rfl (Bool.eq_false_iff.2 hk2) (o_mv rfl) rfl ?_
            refine sg rfl (Bool.eq_false_iff.2 hk2) (o_slen Tryd.underlying9 rfl) rfl ?_
            refine sg rfl (Bool.eq_false_iff.2 hk2) (o_leq rfl rfl) rfl ?_
            refine sg rfl (Bool.eq_false_iff.2 hk2) (o_mv rfl) rfl ?_
            refine sg rfl (decide_eq_true hk3) (o_mv rfl) rfl ?_
            refine sgc rfl (decide_eq_true hk3) (o_call ent54 rfl) (c_all _ (s.drop (colonAt s + 1)) 58 kD ent58 (fun w c h1 h2 => c_digit w c) kD_lt) rfl fun v_ w4 h_ => ?_
            obtain ⟨rfl, E_⟩ := h_
            replace E := E.then E_
            refine sg rfl (Bool.eq_false_iff.2 hk2) (o_pickT (decide_eq_true hk3) rfl rfl) rfl ?_
            refine sg rfl (decide_eq_true hk1) (o_pickF (Bool.eq_false_iff.2 hk2) rfl rfl) rfl ?_
            refine sv (o_pickT (decide_eq_true hk1) rfl rfl) rfl ?_
            refine sv (o_as rfl) rfl ?_
            refine l_nil ?_
            refine e_K (hK4 _ _ _ _ ?_)
            refine c_ret ?_
            exact ret1 rfl rfl ⟨congrArg Value.bool (by rw [serverB, server_e1, server_e2, len_e3]; simp only [hk0, decide_eq_true hk1, Bool.eq_false_iff.2 hk2, decide_eq_true hk3, Bool.eq_false_iff.2 hk4, Bool.true_and, Bool.and_true, Bool.false_and, Bool.and_false, Bool.true_or, Bool.or_true, Bool.false_or, Bool.or_false, Bool.not_true, Bool.not_false]), E⟩
        · skip
          refine c_region ?_
          refine sv (o_mv rfl) rfl ?_
          refine sv (o_mv rfl) rfl ?_
          refine sg rfl (hk0) (o_mv rfl) rfl ?_
          refine sg rfl (hk0) (o_slen Tryd.underlying9 rfl) rfl ?_
          refine sg rfl (hk0) (o_leq rfl rfl) rfl ?_
          refine sv (o_pickT (hk0) rfl rfl) rfl ?_
          refine sv (o_mv rfl) rfl ?_
          refine sg rfl (decide_eq_true hk1) (o_mv rfl) rfl ?_
          refine sg rfl (decide_eq_true hk1) (o_not rfl) rfl ?_
          refine sg rfl (decide_eq_true hk1) (o_mv rfl) rfl ?_
          refine sg rfl (Bool.eq_false_iff.2 hk2) (o_mv rfl) rfl ?_
          refine sg rfl (Bool.eq_false_iff.2 hk2) (o_slen Tryd.underlying9 rfl) rfl ?_
          refine sg rfl (Bool.eq_false_iff.2 hk2) (o_leq rfl rfl) rfl ?_
          refine sg rfl (Bool.eq_false_iff.2 hk2) (o_mv rfl) rfl ?_
          refine sn rfl (fun e_ => absurd ((decide_eq_false hk3).symm.trans e_) (by decide)) rfl ?_
          refine sn rfl (fun e_ => absurd ((decide_eq_false hk3).symm.trans e_) (by decide)) rfl ?_
          refine sg rfl (Bool.eq_false_iff.2 hk2) (o_pickF (decide_eq_false hk3) rfl rfl) rfl ?_
          refine sg rfl (decide_eq_true hk1) (o_pickF (Bool.eq_false_iff.2 hk2) rfl rfl) rfl ?_
          refine sv (o_pickT (decide_eq_true hk1) rfl rfl) rfl ?_
          refine sv (o_as rfl) rfl ?_
          refine l_nil ?_
          refine e_K (hK4 _ _ _ _ ?_)
          refine c_ret ?_
          exact ret1 rfl rfl ⟨congrArg Value.bool (by rw [serverB, server_e1, server_e2, len_e3]; simp only [hk0, decide_eq_true hk1, Bool.eq_false_iff.2 hk2, decide_eq_false hk3, Bool.true_and, Bool.and_true, Bool.false_and, Bool.and_false, Bool.true_or, Bool.or_true, Bool.false_or, Bool.or_false, Bool.not_true, Bool.not_false]), E⟩
    · skip
      refine c_region ?_
      refine sv (o_mv rfl) rfl ?_
      refine sv (o_mv rfl) rfl ?_
      refine sg rfl (hk0) (o_mv rfl) rfl ?_
      refine sg rfl (hk0) (o_slen Tryd.underlying9 rfl) rfl ?_
      refine sg rfl (hk0) (o_leq rfl rfl) rfl ?_
      refine sv (o_pickT (hk0) rfl rfl) rfl ?_
      refine sv (o_mv rfl) rfl ?_
      refine sn rfl (fun e_ => absurd ((decide_eq_false hk1).symm.trans e_) (by decide)) rfl ?_
      refine sn rfl (fun e_ => absurd ((decide_eq_false hk1).symm.trans e_) (by decide)) rfl ?_
      refine sn rfl (fun e_ => absurd ((decide_eq_false hk1).symm.trans e_) (by decide)) rfl ?_
      refine snu rfl rfl rfl ?_
      refine snu rfl rfl rfl ?_
      refine snu rfl rfl rfl ?_
      refine snu rfl rfl rfl ?_
      refine snu rfl rfl rfl ?_
      refine snu rfl rfl rfl ?_
      refine snu rfl rfl rfl ?_
      refine sn rfl (fun e_ => absurd ((decide_eq_false hk1).symm.trans e_) (by decide)) rfl ?_
      refine sv (o_pickF (decide_eq_false hk1) rfl rfl) rfl ?_
      refine sv (o_as rfl) rfl ?_
      refine l_nil ?_
      refine e_K (hK4 _ _ _ _ ?_)
      refine c_ret ?_
      exact ret1 rfl rfl ⟨congrArg Value.bool (by rw [serverB, server_e1, server_e2, len_e3]; simp only [hk0, decide_eq_false hk1, Bool.true_and, Bool.and_true, Bool.false_and, Bool.and_false, Bool.true_or, Bool.or_true, Bool.false_or, Bool.or_false, Bool.not_true, Bool.not_false]), E⟩
  · skip
    refine c_region ?_
    refine sv (o_mv rfl) rfl ?_
    refine sv (o_mv rfl) rfl ?_
    refine sn rfl (fun e_ => absurd ((Bool.eq_false_iff.2 hk0).symm.trans e_) (by decide)) rfl ?_
    refine sn rfl (fun e_ => absurd ((Bool.eq_false_iff.2 hk0).symm.trans e_) (by decide)) rfl ?_
    refine sn rfl (fun e_ => absurd ((Bool.eq_false_iff.2 hk0).symm.trans e_) (by decide)) rfl ?_
    refine sv (o_pickF (Bool.eq_false_iff.2 hk0) rfl rfl) rfl ?_
    refine sv (o_mv rfl) rfl ?_
    refine sn rfl (fun e_ => absurd ((rfl).symm.trans e_) (by decide)) rfl ?_
    refine sn rfl (fun e_ => absurd ((rfl).symm.trans e_) (by decide)) rfl ?_
    refine sn rfl (fun e_ => absurd ((rfl).symm.trans e_) (by decide)) rfl ?_
    refine snu rfl rfl rfl ?_
    refine snu rfl rfl rfl ?_
    refine snu rfl rfl rfl ?_
    refine snu rfl rfl rfl ?_
    refine snu rfl rfl rfl ?_
    refine snu rfl rfl rfl ?_
    refine snu rfl rfl rfl ?_
    refine sn rfl (fun e_ => absurd ((rfl).symm.trans e_) (by decide)) rfl ?_
    refine sv (o_pickF (rfl) rfl rfl) rfl ?_
    refine sv (o_as rfl) rfl ?_
    refine l_nil ?_
    refine e_K (hK4 _ _ _ _ ?_)
    refine c_ret ?_
    exact ret1 rfl rfl ⟨congrArg Value.bool (by rw [serverB, server_e1, server_e2, len_e3]; simp only [Bool.eq_false_iff.2 hk0, Bool.true_and, Bool.and_true, Bool.false_and, Bool.and_false, Bool.true_or, Bool.or_true, Bool.false_or, Bool.or_false, Bool.not_true, Bool.not_false]), E⟩

theorem c_parts (w : World) (s : Str) (sign : UInt8) (hs : s.length < 4294967281) (hM : MaxL w) : Calls Tryd.prog 52 [S s, .int .u8 (sign.toNat : Int)].toArray w (Ret fun u w' => (∃ a b o, u = .tuple #[S a, S b, .bool o] ∧ o = (partG sign s && decide (colonAt (s.drop 1) < (s.drop 1).length)) ∧ (o = true → a = (s.drop 1).take (colonAt (s.drop 1)) ∧ b = (s.drop 1).drop (colonAt (s.drop 1) + 1))) ∧ Mod [] w w') := by
  refine enter Tryd.func52 rfl rfl rfl (l := [(0, _), (1, _)]) ⟨rfl, rfl, trivial⟩ ?_
  have E := Mod.refl [] w
  refine c_seq fun K1 hK1 => ?_
  refine c_region ?_
  refine sv (o_as rfl) rfl ?_
  refine sv (o_as rfl) rfl ?_
  refine sv (o_as rfl) rfl ?_
  refine l_nil ?_
  refine e_K (hK1 _ _ _ _ ?_)
  refine c_seq fun K2 hK2 => ?_
  refine c_seq fun K3 hK3 => ?_
  by_cases hk0 : s = []
  · skip
    refine c_region ?_
    refine sv (o_mv rfl) rfl ?_
    refine sv (o_seq rfl rfl) rfl ?_
    refine sv (o_mv rfl) rfl ?_
    refine sn rfl (fun e_ => absurd ((decide_eq_true hk0).symm.trans e_) (by decide)) rfl ?_
    refine sn rfl (fun e_ => absurd ((decide_eq_true hk0).symm.trans e_) (by decide)) rfl ?_
    refine sn rfl (fun e_ => absurd ((decide_eq_true hk0).symm.trans e_) (by decide)) rfl ?_
    refine sn rfl (fun e_ => absurd ((decide_eq_true hk0).symm.trans e_) (by decide)) rfl ?_
    refine sv (o_pickT (decide_eq_true hk0) rfl rfl) rfl ?_
    refine sv (o_mv rfl) rfl ?_
    refine sn rfl (fun e_ => absurd ((rfl).symm.trans e_) (by decide)) rfl ?_
    refine sn rfl (fun e_ => absurd ((rfl).symm.trans e_) (by decide)) rfl ?_
    refine sn rfl (fun e_ => absurd ((rfl).symm.trans e_) (by decide)) rfl ?_
    refine sv (o_pickT (rfl) rfl rfl) rfl ?_
    refine l_nil ?_
    refine e_K (hK3 _ _ _ _ ?_)
    refine c_true rfl ?_
    have hg : partG sign s = false := by subst hk0; rfl
    refine c_seq fun K4 hK4 => ?_
    refine c_region ?_
    refine sv (o_as rfl) rfl ?_
    refine sv (o_as rfl) rfl ?_
    refine sv (o_as rfl) rfl ?_
    refine l_nil ?_
    refine e_K (hK4 _ _ _ _ ?_)
    refine c_ret ?_
    refine e_then (by simp) ?_
    exact ret3 rfl rfl rfl rfl ⟨⟨[], [], false, rfl, by rw [hg]; rfl, fun h => by cases h⟩, E⟩
  · skip
    obtain ⟨b0, r, rfl⟩ : ∃ b r, s = b :: r := List.exists_cons_of_ne_nil hk0
    by_cases hk1 : (b0.toNat : Int) ≠ (sign.toNat : Int)
    · skip
      refine c_region ?_
      refine sv (o_mv rfl) rfl ?_
      refine sv (o_seq rfl rfl) rfl ?_
      refine sv (o_mv rfl) rfl ?_
      refine sg rfl (decide_eq_false hk0) (o_mv rfl) rfl ?_
      refine sg rfl (decide_eq_false hk0) (o_sidx Tryd.underlying9 rfl rfl (by omega) rfl) rfl ?_
      refine sg rfl (decide_eq_false hk0) (o_mv rfl) rfl ?_
      refine sg rfl (decide_eq_false hk0) (o_neq rfl rfl) rfl ?_
      refine sv (o_pickF (decide_eq_false hk0) rfl rfl) rfl ?_
      refine sv (o_mv rfl) rfl ?_
      refine sn rfl (fun e_ => absurd ((decide_eq_true hk1).symm.trans e_) (by decide)) rfl ?_
      refine sn rfl (fun e_ => absurd ((decide_eq_true hk1).symm.trans e_) (by decide)) rfl ?_
      refine sn rfl (fun e_ => absurd ((decide_eq_true hk1).symm.trans e_) (by decide)) rfl ?_
      refine sv (o_pickT (decide_eq_true hk1) rfl rfl) rfl ?_
      refine l_nil ?_
      refine e_K (hK3 _ _ _ _ ?_)
      refine c_true rfl ?_
      have hbs : b0 ≠ sign := fun h => hk1 (by rw [h])
      have hg : partG sign (b0 :: r) = false := by simp [partG, hbs]
      refine c_seq fun K5 hK5 => ?_
      refine c_region ?_
      refine sv (o_as rfl) rfl ?_
      refine sv (o_as rfl) rfl ?_
      refine sv (o_as rfl) rfl ?_
      refine l_nil ?_
      refine e_K (hK5 _ _ _ _ ?_)
      refine c_ret ?_
      refine e_then (by simp) ?_
      exact ret3 rfl rfl rfl rfl ⟨⟨[], [], false, rfl, by rw [hg]; rfl, fun h => by cases h⟩, E⟩
    · skip
      by_cases hk2 : ((b0 :: r).length : Int) > 255
      · skip
        refine c_region ?_
        refine sv (o_mv rfl) rfl ?_
        refine sv (o_seq rfl rfl) rfl ?_
        refine sv (o_mv rfl) rfl ?_
        refine sg rfl (decide_eq_false hk0) (o_mv rfl) rfl ?_
        refine sg rfl (decide_eq_false hk0) (o_sidx Tryd.underlying9 rfl rfl (by omega) rfl) rfl ?_
        refine sg rfl (decide_eq_false hk0) (o_mv rfl) rfl ?_
        refine sg rfl (decide_eq_false hk0) (o_neq rfl rfl) rfl ?_
        refine sv (o_pickF (decide_eq_false hk0) rfl rfl) rfl ?_
        refine sv (o_mv rfl) rfl ?_
        refine sg rfl (decide_eq_false hk1) (o_mv rfl) rfl ?_
        refine sg rfl (decide_eq_false hk1) (o_slen Tryd.underlying9 rfl) rfl ?_
        refine sg rfl (decide_eq_false hk1) (o_gtr rfl rfl) rfl ?_
        refine sv (o_pickF (decide_eq_false hk1) rfl rfl) rfl ?_
        refine l_nil ?_
        refine e_K (hK3 _ _ _ _ ?_)
        refine c_if rfl (fun h19 => ?_) (fun h19 => absurd hk2 h19)
        have hg : partG sign (b0 :: r) = false := by
          simp only [List.length_cons] at hk2
          simp [partG]
          omega
        refine c_seq fun K6 hK6 => ?_
        refine c_region ?_
        refine sv (o_as rfl) rfl ?_
        refine sv (o_as rfl) rfl ?_
        refine sv (o_as rfl) rfl ?_
        refine l_nil ?_
        refine e_K (hK6 _ _ _ _ ?_)
        refine c_ret ?_
        refine e_then (by simp) ?_
        exact ret3 rfl rfl rfl rfl ⟨⟨[], [], false, rfl, by rw [hg]; rfl, fun h => by cases h⟩, E⟩
      · skip
        refine c_region ?_
        refine sv (o_mv rfl) rfl ?_
        refine sv (o_seq rfl rfl) rfl ?_
        refine sv (o_mv rfl) rfl ?_
        refine sg rfl (decide_eq_false hk0) (o_mv rfl) rfl ?_
        refine sg rfl (decide_eq_false hk0) (o_sidx Tryd.underlying9 rfl rfl (by omega) rfl) rfl ?_
        refine sg rfl (decide_eq_false hk0) (o_mv rfl) rfl ?_
        refine sg rfl (decide_eq_false hk0) (o_neq rfl rfl) rfl ?_
        refine sv (o_pickF (decide_eq_false hk0) rfl rfl) rfl ?_
        refine sv (o_mv rfl) rfl ?_
        refine sg rfl (decide_eq_false hk1) (o_mv rfl) rfl ?_
        refine sg rfl (decide_eq_false hk1) (o_slen Tryd.underlying9 rfl) rfl ?_
        refine sg rfl (decide_eq_false hk1) (o_gtr rfl rfl) rfl ?_
        refine sv (o_pickF (decide_eq_false hk1) rfl rfl) rfl ?_
        refine l_nil ?_
        refine e_K (hK3 _ _ _ _ ?_)
        refine c_if rfl (fun h19 => absurd h19 hk2) (fun h19 => ?_)
        have hbs : b0 = sign := u8_eq (Classical.not_not.1 hk1)
        have hg : partG sign (b0 :: r) = true := by
          simp only [List.length_cons] at hk2
          simp [partG, hbs]
          omega
        refine c_skip ?_
        refine e_K (hK2 _ _ _ _ ?_)
        refine c_seq fun K7 hK7 => ?_
        refine c_region ?_
        refine sv (o_mv rfl) rfl ?_
        refine sv (o_ssfrom (n := 1) Tryd.underlying9 rfl rfl (by simp)) rfl ?_
        refine sc (o_call ent77 rfl) (c_cut' _ ((b0 :: r).drop 1) (by simp at hs ⊢; omega) (hM.mod0 E)) rfl fun v_ w1 h_ => ?_
        obtain ⟨rfl, E_⟩ := h_
        replace E := E.then E_
        refine sv (o_ext rfl rfl) rfl ?_
        refine sv (o_ext rfl rfl) rfl ?_
        refine sv (o_ext rfl rfl) rfl ?_
        refine sv (o_as rfl) rfl ?_
        refine sv (o_as rfl) rfl ?_
        refine sv (o_as rfl) rfl ?_
        refine l_nil ?_
        refine e_K (hK7 _ _ _ _ ?_)
        refine c_ret ?_
        exact ret3 rfl rfl rfl rfl ⟨⟨_, _, _, rfl, by rw [hg, Bool.true_and], fun _ => ⟨rfl, rfl⟩⟩, E⟩

theorem c_user (w : World) (s : Str) (hs : s.length < 4294967281) (hM : MaxL w) : Calls Tryd.prog 24 [S s].toArray w (Ret fun u w' => u = .bool (namedB 64 qUser s) ∧ Mod [] w w') := by
  refine enter Tryd.func24 rfl rfl rfl (l := [(0, _)]) ⟨rfl, trivial⟩ ?_
  have E := Mod.refl [] w
  refine c_seq fun K1 hK1 => ?_
  refine c_region ?_
  refine sv (o_as rfl) rfl ?_
  refine l_nil ?_
  refine e_K (hK1 _ _ _ _ ?_)
  refine c_seq fun K2 hK2 => ?_
  refine c_region ?_
  refine sv (o_mv rfl) rfl ?_
  refine sc (o_call ent52 rfl) (c_parts _ s 64 hs (hM.mod0 E)) rfl fun v_ w1 h_ => ?_
  obtain ⟨⟨a, b, o, rfl, ho, hab⟩, E_⟩ := h_
  replace E := E.then E_
  refine sv (o_mv rfl) rfl ?_
  refine sv (o_ext rfl rfl) rfl ?_
  refine sv (o_ext rfl rfl) rfl ?_
  refine sv (o_ext rfl rfl) rfl ?_
  refine sv (o_as rfl) rfl ?_
  refine sv (o_as rfl) rfl ?_
  refine sv (o_as rfl) rfl ?_
  refine l_nil ?_
  refine e_K (hK2 _ _ _ _ ?_)
  refine c_seq fun K3 hK3 => ?_
  by_cases hk0 : (o) = true
  · skip
    obtain ⟨ha_, hb_⟩ := hab hk0
    subst ha_
    subst hb_
    by_cases hk1 : (serverB ((s.drop 1).drop (colonAt (s.drop 1) + 1))) = true
    · skip
      by_cases hk2 : (allB qUser ((s.drop 1).take (colonAt (s.drop 1)))) = true
      · skip
        refine c_region ?_
        refine sv (o_mv rfl) rfl ?_
        refine sv (o_mv rfl) rfl ?_
        refine sg rfl (hk0) (o_mv rfl) rfl ?_
        refine sgc rfl (hk0) (o_call ent53 rfl) (c_server _ ((s.drop 1).drop (colonAt (s.drop 1) + 1)) (by simp only [List.length_drop]; omega) (hM.mod0 E)) rfl fun v_ w2 h_ => ?_
        obtain ⟨rfl, E_⟩ := h_
        replace E := E.then E_
        refine sv (o_pickT (hk0) rfl rfl) rfl ?_
        refine sv (o_mv rfl) rfl ?_
        refine sg rfl (hk1) (o_mv rfl) rfl ?_
        refine sgc rfl (hk1) (o_call ent54 rfl) (c_all _ ((s.drop 1).take (colonAt (s.drop 1))) 59 qUser ent59 (fun w c h1 h2 => c_kUser w c h1 h2) qUser_lt) rfl fun v_ w3 h_ => ?_
        obtain ⟨rfl, E_⟩ := h_
        replace E := E.then E_
        refine sv (o_pickT (hk1) rfl rfl) rfl ?_
        refine sv (o_as rfl) rfl ?_
        refine l_nil ?_
        refine e_K (hK3 _ _ _ _ ?_)
        refine c_ret ?_
        exact ret1 rfl rfl ⟨congrArg Value.bool (by rw [namedB_eq (by decide), ← ho]; simp only [hk0, hk1, hk2, Bool.true_and, Bool.and_true, Bool.false_and, Bool.and_false, Bool.true_or, Bool.or_true, Bool.false_or, Bool.or_false, Bool.not_true, Bool.not_false]), E⟩
      · skip
        refine c_region ?_
        refine sv (o_mv rfl) rfl ?_
        refine sv (o_mv rfl) rfl ?_
        refine sg rfl (hk0) (o_mv rfl) rfl ?_
        refine sgc rfl (hk0) (o_call ent53 rfl) (c_server _ ((s.drop 1).drop (colonAt (s.drop 1) + 1)) (by simp only [List.length_drop]; omega) (hM.mod0 E)) rfl fun v_ w4 h_ => ?_
        obtain ⟨rfl, E_⟩ := h_
        replace E := E.then E_
        refine sv (o_pickT (hk0) rfl rfl) rfl ?_
        refine sv (o_mv rfl) rfl ?_
        refine sg rfl (hk1) (o_mv rfl) rfl ?_
        refine sgc rfl (hk1) (o_call ent54 rfl) (c_all _ ((s.drop 1).take (colonAt (s.drop 1))) 59 qUser ent59 (fun w c h1 h2 => c_kUser w c h1 h2) qUser_lt) rfl fun v_ w5 h_ => ?_
        obtain ⟨rfl, E_⟩ := h_
        replace E := E.then E_
        refine sv (o_pickT (hk1) rfl rfl) rfl ?_
        refine sv (o_as rfl) rfl ?_
        refine l_nil ?_
        refine e_K (hK3 _ _ _ _ ?_)
        refine c_ret ?_
        exact ret1 rfl rfl ⟨congrArg Value.bool (by rw [namedB_eq (by decide), ← ho]; simp only [hk0, hk1, Bool.eq_false_iff.2 hk2, Bool.true_and, Bool.and_true, Bool.false_and, Bool.and_false, Bool.true_or, Bool.or_true, Bool.false_or, Bool.or_false, Bool.not_true, Bool.not_false]), E⟩
    · skip
      refine c_region ?_
      refine sv (o_mv rfl) rfl ?_
      refine sv (o_mv rfl) rfl ?_
      refine sg rfl (hk0) (o_mv rfl) rfl ?_
      refine sgc rfl (hk0) (o_call ent53 rfl) (c_server _ ((s.drop 1).drop (colonAt (s.drop 1) + 1)) (by simp only [List.length_drop]; omega) (hM.mod0 E)) rfl fun v_ w6 h_ => ?_
      obtain ⟨rfl, E_⟩ := h_
      replace E := E.then E_
      refine sv (o_pickT (hk0) rfl rfl) rfl ?_
      refine sv (o_mv rfl) rfl ?_
      refine sn rfl (fun e_ => absurd ((Bool.eq_false_iff.2 hk1).symm.trans e_) (by decide)) rfl ?_
      refine sn rfl (fun e_ => absurd ((Bool.eq_false_iff.2 hk1).symm.trans e_) (by decide)) rfl ?_
      refine sv (o_pickF (Bool.eq_false_iff.2 hk1) rfl rfl) rfl ?_
      refine sv (o_as rfl) rfl ?_
      refine l_nil ?_
      refine e_K (hK3 _ _ _ _ ?_)
      refine c_ret ?_
      exact ret1 rfl rfl ⟨congrArg Value.bool (by rw [namedB_eq (by decide), ← ho]; simp only [hk0, Bool.eq_false_iff.2 hk1, Bool.true_and, Bool.and_true, Bool.false_and, Bool.and_false, Bool.true_or, Bool.or_true, Bool.false_or, Bool.or_false, Bool.not_true, Bool.not_false]), E⟩
  · skip
    refine c_region ?_
    refine sv (o_mv rfl) rfl ?_
    refine sv (o_mv rfl) rfl ?_
    refine sn rfl (fun e_ => absurd ((Bool.eq_false_iff.2 hk0).symm.trans e_) (by decide)) rfl ?_
    refine sn rfl (fun e_ => absurd ((Bool.eq_false_iff.2 hk0).symm.trans e_) (by decide)) rfl ?_
    refine sv (o_pickF (Bool.eq_false_iff.2 hk0) rfl rfl) rfl ?_
    refine sv (o_mv rfl) rfl ?_
    refine sn rfl (fun e_ => absurd ((rfl).symm.trans e_) (by decide)) rfl ?_
    refine sn rfl (fun e_ => absurd ((rfl).symm.trans e_) (by decide)) rfl ?_
    refine sv (o_pickF (rfl) rfl rfl) rfl ?_
    refine sv (o_as rfl) rfl ?_
    refine l_nil ?_
    refine e_K (hK3 _ _ _ _ ?_)
    refine c_ret ?_
    exact ret1 rfl rfl ⟨congrArg Value.bool (by rw [namedB_eq (by decide), ← ho]; simp only [Bool.eq_false_iff.2 hk0, Bool.true_and, Bool.and_true, Bool.false_and, Bool.and_false, Bool.true_or, Bool.or_true, Bool.false_or, Bool.or_false, Bool.not_true, Bool.not_false]), E⟩

theorem c_room (w : World) (s : Str) (hs : s.length < 4294967281) (hM : MaxL w) : Calls Tryd.prog 23 [S s].toArray w (Ret fun u w' => u = .bool (namedB 33 qRoom s) ∧ Mod [] w w') := by
  refine enter Tryd.func23 rfl rfl rfl (l := [(0, _)]) ⟨rfl, trivial⟩ ?_
  have E := Mod.refl [] w
  refine c_seq fun K1 hK1 => ?_
  refine c_region ?_
  refine sv (o_as rfl) rfl ?_
  refine l_nil ?_
  refine e_K (hK1 _ _ _ _ ?_)
  refine c_seq fun K2 hK2 => ?_
  refine c_region ?_
  refine sv (o_mv rfl) rfl ?_
  refine sc (o_call ent52 rfl) (c_parts _ s 33 hs (hM.mod0 E)) rfl fun v_ w1 h_ => ?_
  obtain ⟨⟨a, b, o, rfl, ho, hab⟩, E_⟩ := h_
  replace E := E.then E_
  refine sv (o_mv rfl) rfl ?_
  refine sv (o_ext rfl rfl) rfl ?_
  refine sv (o_ext rfl rfl) rfl ?_
  refine sv (o_ext rfl rfl) rfl ?_
  refine sv (o_as rfl) rfl ?_
  refine sv (o_as rfl) rfl ?_
  refine sv (o_as rfl) rfl ?_
  refine l_nil ?_
  refine e_K (hK2 _ _ _ _ ?_)
  refine c_seq fun K3 hK3 => ?_
  by_cases hk0 : (o) = true
  · skip
    obtain ⟨ha_, hb_⟩ := hab hk0
    subst ha_
    subst hb_
    by_cases hk1 : (serverB ((s.drop 1).drop (colonAt (s.drop 1) + 1))) = true
    · skip
      by_cases hk2 : (allB qRoom ((s.drop 1).take (colonAt (s.drop 1)))) = true
      · skip
        refine c_region ?_
        refine sv (o_mv rfl) rfl ?_
        refine sv (o_mv rfl) rfl ?_
        refine sg rfl (hk0) (o_mv rfl) rfl ?_
        refine sgc rfl (hk0) (o_call ent53 rfl) (c_server _ ((s.drop 1).drop (colonAt (s.drop 1) + 1)) (by simp only [List.length_drop]; omega) (hM.mod0 E)) rfl fun v_ w2 h_ => ?_
        obtain ⟨rfl, E_⟩ := h_
        replace E := E.then E_
        refine sv (o_pickT (hk0) rfl rfl) rfl ?_
        refine sv (o_mv rfl) rfl ?_
        refine sg rfl (hk1) (o_mv rfl) rfl ?_
        refine sgc rfl (hk1) (o_call ent54 rfl) (c_all _ ((s.drop 1).take (colonAt (s.drop 1))) 55 qRoom ent55 (fun w c h1 h2 => c_kRoom w c h1 h2) qRoom_lt) rfl fun v_ w3 h_ => ?_
        obtain ⟨rfl, E_⟩ := h_
        replace E := E.then E_
        refine sv (o_pickT (hk1) rfl rfl) rfl ?_
        refine sv (o_as rfl) rfl ?_
        refine l_nil ?_
        refine e_K (hK3 _ _ _ _ ?_)
        refine c_ret ?_
        exact ret1 rfl rfl ⟨congrArg Value.bool (by rw [namedB_eq (by decide), ← ho]; simp only [hk0, hk1, hk2, Bool.true_and, Bool.and_true, Bool.false_and, Bool.and_false, Bool.true_or, Bool.or_true, Bool.false_or, Bool.or_false, Bool.not_true, Bool.not_false]), E⟩
      · skip
        refine c_region ?_
        refine sv (o_mv rfl) rfl ?_
        refine sv (o_mv rfl) rfl ?_
        refine sg rfl (hk0) (o_mv rfl) rfl ?_
        refine sgc rfl (hk0) (o_call ent53 rfl) (c_server _ ((s.drop 1).drop (colonAt (s.drop 1) + 1)) (by simp only [List.length_drop]; omega) (hM.mod0 E)) rfl fun v_ w4 h_ => ?_
        obtain ⟨rfl, E_⟩ := h_
        replace E := E.then E_
        refine sv (o_pickT (hk0) rfl rfl) rfl ?_
        refine sv (o_mv rfl) rfl ?_
        refine sg rfl (hk1) (o_mv rfl) rfl ?_
        refine sgc rfl (hk1) (o_call ent54 rfl) (c_all _ ((s.drop 1).take (colonAt (s.drop 1))) 55 qRoom ent55 (fun w c h1 h2 => c_kRoom w c h1 h2) qRoom_lt) rfl fun v_ w5 h_ => ?_
        obtain ⟨rfl, E_⟩ := h_
        replace E := E.then E_
        refine sv (o_pickT (hk1) rfl rfl) rfl ?_
        refine sv (o_as rfl) rfl ?_
        refine l_nil ?_
        refine e_K (hK3 _ _ _ _ ?_)
        refine c_ret ?_
        exact ret1 rfl rfl ⟨congrArg Value.bool (by rw [namedB_eq (by decide), ← ho]; simp only [hk0, hk1, Bool.eq_false_iff.2 hk2, Bool.true_and, Bool.and_true, Bool.false_and, Bool.and_false, Bool.true_or, Bool.or_true, Bool.false_or, Bool.or_false, Bool.not_true, Bool.not_false]), E⟩
    · skip
      refine c_region ?_
      refine sv (o_mv rfl) rfl ?_
      refine sv (o_mv rfl) rfl ?_
      refine sg rfl (hk0) (o_mv rfl) rfl ?_
      refine sgc rfl (hk0) (o_call ent53 rfl) (c_server _ ((s.drop 1).drop (colonAt (s.drop 1) + 1)) (by simp only [List.length_drop]; omega) (hM.mod0 E)) rfl fun v_ w6 h_ => ?_
      obtain ⟨rfl, E_⟩ := h_
      replace E := E.then E_
      refine sv (o_pickT (hk0) rfl rfl) rfl ?_
      refine sv (o_mv rfl) rfl ?_
      refine sn rfl (fun e_ => absurd ((Bool.eq_false_iff.2 hk1).symm.trans e_) (by decide)) rfl ?_
      refine sn rfl (fun e_ => absurd ((Bool.eq_false_iff.2 hk1).symm.trans e_) (by decide)) rfl ?_
      refine sv (o_pickF (Bool.eq_false_iff.2 hk1) rfl rfl) rfl ?_
      refine sv (o_as rfl) rfl ?_
      refine l_nil ?_
      refine e_K (hK3 _ _ _ _ ?_)
      refine c_ret ?_
      exact ret1 rfl rfl ⟨congrArg Value.bool (by rw [namedB_eq (by decide), ← ho]; simp only [hk0, Bool.eq_false_iff.2 hk1, Bool.true_and, Bool.and_true, Bool.false_and, Bool.and_false, Bool.true_or, Bool.or_true, Bool.false_or, Bool.or_false, Bool.not_true, Bool.not_false]), E⟩
  · skip
    refine c_region ?_
    refine sv (o_mv rfl) rfl ?_
    refine sv (o_mv rfl) rfl ?_
    refine sn rfl (fun e_ => absurd ((Bool.eq_false_iff.2 hk0).symm.trans e_) (by decide)) rfl ?_
    refine sn rfl (fun e_ => absurd ((Bool.eq_false_iff.2 hk0).symm.trans e_) (by decide)) rfl ?_
    refine sv (o_pickF (Bool.eq_false_iff.2 hk0) rfl rfl) rfl ?_
    refine sv (o_mv rfl) rfl ?_
    refine sn rfl (fun e_ => absurd ((rfl).symm.trans e_) (by decide)) rfl ?_
    refine sn rfl (fun e_ => absurd ((rfl).symm.trans e_) (by decide)) rfl ?_
    refine sv (o_pickF (rfl) rfl rfl) rfl ?_
    refine sv (o_as rfl) rfl ?_
    refine l_nil ?_
    refine e_K (hK3 _ _ _ _ ?_)
    refine c_ret ?_
    exact ret1 rfl rfl ⟨congrArg Value.bool (by rw [namedB_eq (by decide), ← ho]; simp only [Bool.eq_false_iff.2 hk0, Bool.true_and, Bool.and_true, Bool.false_and, Bool.and_false, Bool.true_or, Bool.or_true, Bool.false_or, Bool.or_false, Bool.not_true, Bool.not_false]), E⟩

theorem c_key (w : World) (s : Str) : Calls Tryd.prog 63 [S s].toArray w (Ret fun u w' => u = .bool (keyB s) ∧ Mod [] w w') := by
  refine enter Tryd.func63 rfl rfl rfl (l := [(0, _)]) ⟨rfl, trivial⟩ ?_
  have E := Mod.refl [] w
  refine c_seq fun K1 hK1 => ?_
  refine c_region ?_
  refine sv (o_as rfl) rfl ?_
  refine l_nil ?_
  refine e_K (hK1 _ _ _ _ ?_)
  refine c_seq fun K2 hK2 => ?_
  refine c_region ?_
  refine sv (o_mv rfl) rfl ?_
  refine sc (o_call ent82 rfl) (c_cutp _ s edS) rfl fun v_ w1 h_ => ?_
  obtain ⟨rfl, E_⟩ := h_
  replace E := E.then E_
  refine sv (o_mv rfl) rfl ?_
  refine sv (o_ext rfl rfl) rfl ?_
  refine sv (o_ext rfl rfl) rfl ?_
  refine sv (o_as rfl) rfl ?_
  refine sv (o_as rfl) rfl ?_
  refine l_nil ?_
  refine e_K (hK2 _ _ _ _ ?_)
  refine c_seq fun K3 hK3 => ?_
  by_cases hk0 : (Lib.hasPrefix s edS) = true
  · skip
    by_cases hk1 : (s.length : Int) ≤ 255
    · skip
      by_cases hk2 : (allB qKey (Lib.trimPrefix s edS)) = true
      · skip
        refine c_region ?_
        refine sv (o_mv rfl) rfl ?_
        refine sv (o_mv rfl) rfl ?_
        refine sg rfl (hk0) (o_mv rfl) rfl ?_
        refine sg rfl (hk0) (o_slen Tryd.underlying9 rfl) rfl ?_
        refine sg rfl (hk0) (o_leq rfl rfl) rfl ?_
        refine sv (o_pickT (hk0) rfl rfl) rfl ?_
        refine sv (o_mv rfl) rfl ?_
        refine sg rfl (decide_eq_true hk1) (o_mv rfl) rfl ?_
        refine sgc rfl (decide_eq_true hk1) (o_call ent54 rfl) (c_all _ (Lib.trimPrefix s edS) 83 qKey ent83 (fun w c h1 h2 => c_kKey w c h1 h2) qKey_lt) rfl fun v_ w2 h_ => ?_
        obtain ⟨rfl, E_⟩ := h_
        replace E := E.then E_
        refine sv (o_pickT (decide_eq_true hk1) rfl rfl) rfl ?_
        refine sv (o_as rfl) rfl ?_
        refine l_nil ?_
        refine e_K (hK3 _ _ _ _ ?_)
        refine c_ret ?_
        exact ret1 rfl rfl ⟨congrArg Value.bool (by rw [keyB_eq]; simp only [hk0, decide_eq_true hk1, hk2, Bool.true_and, Bool.and_true, Bool.false_and, Bool.and_false, Bool.true_or, Bool.or_true, Bool.false_or, Bool.or_false, Bool.not_true, Bool.not_false]), E⟩
      · skip
        refine c_region ?_
        refine sv (o_mv rfl) rfl ?_
        refine sv (o_mv rfl) rfl ?_
        refine sg rfl (hk0) (o_mv rfl) rfl ?_
        refine sg rfl (hk0) (o_slen Tryd.underlying9 rfl) rfl ?_
        refine sg rfl (hk0) (o_leq rfl rfl) rfl ?_
        refine sv (o_pickT (hk0) rfl rfl) rfl ?_
        refine sv (o_mv rfl) rfl ?_
        refine sg rfl (decide_eq_true hk1) (o_mv rfl) rfl ?_
        refine sgc rfl (decide_eq_true hk1) (o_call ent54 rfl) (c_all _ (Lib.trimPrefix s edS) 83 qKey ent83 (fun w c h1 h2 => c_kKey w c h1 h2) qKey_lt) rfl fun v_ w3 h_ => ?_
        obtain ⟨rfl, E_⟩ := h_
        replace E := E.then E_
        refine sv (o_pickT (decide_eq_true hk1) rfl rfl) rfl ?_
        refine sv (o_as rfl) rfl ?_
        refine l_nil ?_
        refine e_K (hK3 _ _ _ _ ?_)
        refine c_ret ?_
        exact ret1 rfl rfl ⟨congrArg Value.bool (by rw [keyB_eq]; simp only [hk0, decide_eq_true hk1, Bool.eq_false_iff.2 hk2, Bool.true_and, Bool.and_true, Bool.false_and, Bool.and_false, Bool.true_or, Bool.or_true, Bool.false_or, Bool.or_false, Bool.not_true, Bool.not_false]), E⟩
    · skip
      refine c_region ?_
      refine sv (o_mv rfl) rfl ?_
      refine sv (o_mv rfl) rfl ?_
      refine sg rfl (hk0) (o_mv rfl) rfl ?_
      refine sg rfl (hk0) (o_slen Tryd.underlying9 rfl) rfl ?_
      refine sg rfl (hk0) (o_leq rfl rfl) rfl ?_
      refine sv (o_pickT (hk0) rfl rfl) rfl ?_
      refine sv (o_mv rfl) rfl ?_
      refine sn rfl (fun e_ => absurd ((decide_eq_false hk1).symm.trans e_) (by decide)) rfl ?_
      refine sn rfl (fun e_ => absurd ((decide_eq_false hk1).symm.trans e_) (by decide)) rfl ?_
      refine sv (o_pickF (decide_eq_false hk1) rfl rfl) rfl ?_
      refine sv (o_as rfl) rfl ?_
      refine l_nil ?_
      refine e_K (hK3 _ _ _ _ ?_)
      refine c_ret ?_
      exact ret1 rfl rfl ⟨congrArg Value.bool (by rw [keyB_eq]; simp only [hk0, decide_eq_false hk1, Bool.true_and, Bool.and_true, Bool.false_and, Bool.and_false, Bool.true_or, Bool.or_true, Bool.false_or, Bool.or_false, Bool.not_true, Bool.not_false]), E⟩
  · skip
    refine c_region ?_
    refine sv (o_mv rfl) rfl ?_
    refine sv (o_mv rfl) rfl ?_
    refine sn rfl (fun e_ => absurd ((Bool.eq_false_iff.2 hk0).symm.trans e_) (by decide)) rfl ?_
    refine sn rfl (fun e_ => absurd ((Bool.eq_false_iff.2 hk0).symm.trans e_) (by decide)) rfl ?_
    refine sn rfl (fun e_ => absurd ((Bool.eq_false_iff.2 hk0).symm.trans e_) (by decide)) rfl ?_
    refine sv (o_pickF (Bool.eq_false_iff.2 hk0) rfl rfl) rfl ?_
    refine sv (o_mv rfl) rfl ?_
    refine sn rfl (fun e_ => absurd ((rfl).symm.trans e_) (by decide)) rfl ?_
    refine sn rfl (fun e_ => absurd ((rfl).symm.trans e_) (by decide)) rfl ?_
    refine sv (o_pickF (rfl) rfl rfl) rfl ?_
    refine sv (o_as rfl) rfl ?_
    refine l_nil ?_
    refine e_K (hK3 _ _ _ _ ?_)
    refine c_ret ?_
    exact ret1 rfl rfl ⟨congrArg Value.bool (by rw [keyB_eq]; simp only [Bool.eq_false_iff.2 hk0, Bool.true_and, Bool.and_true, Bool.false_and, Bool.and_false, Bool.true_or, Bool.or_true, Bool.false_or, Bool.or_false, Bool.not_true, Bool.not_false]), E⟩
end Go.Proofs.YtkhbnhdlelmbnaaDoor.V

set_option linter.unusedVariables false
set_option linter.unusedSimpArgs false
namespace Go.Proofs.YtkhbnhdlelmbnaaDoor.V
open Go
section
variable {P : Program} {l : List (Nat × Value)} {w : World} {ty : TypeId} {pos : String} {af : Array Edge} {dd : Option Nat} {gg : Option (Nat × Bool)} {x y z hi : Operand} {t : TypeId}
end
end Go.Proofs.YtkhbnhdlelmbnaaDoor.V

set_option linter.unusedVariables false
set_option linter.unusedSimpArgs false
set_option maxRecDepth 10000
namespace Go.Proofs.YtkhbnhdlelmbnaaDoor.V
open Go Go.Proofs
end Go.Proofs.YtkhbnhdlelmbnaaDoor.V

set_option linter.unusedVariables false
set_option linter.unusedSimpArgs false
namespace Go.Proofs.YtkhbnhdlelmbnaaDoor.V
open Go
/-- a word as a value -/
def W4 (x : UInt32) : Value := .int .u32 x.toNat
section
variable {P : Program} {l : List (Nat × Value)} {w : World} {ty : TypeId} {pos : String} {af : Array Edge}
variable {dd : Option Nat} {gg : Option (Nat × Bool)} {x y : Operand} {t t' t'' : TypeId} {a b : UInt32}
end
end Go.Proofs.YtkhbnhdlelmbnaaDoor.V

set_option linter.unusedVariables false
set_option linter.unusedSimpArgs false
namespace Go.Proofs.YtkhbnhdlelmbnaaDoor.V
open Go
abbrev bcells (c : UInt8) : List Value := [B8 c]
abbrev byD (b : List UInt8) : D := flat 1 bcells b
abbrev wcells (x : UInt32) : List Value := [W4 x]
abbrev woD (b : List UInt32) : D := flat 1 wcells b
/-- a word turned to the right -/
def rr (x : UInt32) (k : Nat) : UInt32 := x >>> UInt32.ofNat k ||| x <<< UInt32.ofNat (32 - k)
/-- the word of bytes, the highest first -/
def wordOf (b : List UInt8) : UInt32 := b.foldl (fun n c => n <<< UInt32.ofNat 8 ||| c.toUInt32) 0
structure S8 where
  a : UInt32
  b : UInt32
  c : UInt32
  d : UInt32
  e : UInt32
  f : UInt32
  g : UInt32
  h : UInt32
abbrev S8.cells (s : S8) : List Value := [W4 s.a, W4 s.b, W4 s.c, W4 s.d, W4 s.e, W4 s.f, W4 s.g, W4 s.h]
def numsK : List UInt32 := [
  0x428a2f98, 0x71374491, 0xb5c0fbcf, 0xe9b5dba5, 0x3956c25b, 0x59f111f1, 0x923f82a4, 0xab1c5ed5,
  0xd807aa98, 0x12835b01, 0x243185be, 0x550c7dc3, 0x72be5d74, 0x80deb1fe, 0x9bdc06a7, 0xc19bf174,
  0xe49b69c1, 0xefbe4786, 0x0fc19dc6, 0x240ca1cc, 0x2de92c6f, 0x4a7484aa, 0x5cb0a9dc, 0x76f988da,
  0x983e5152, 0xa831c66d, 0xb00327c8, 0xbf597fc7, 0xc6e00bf3, 0xd5a79147, 0x06ca6351, 0x14292967,
  0x27b70a85, 0x2e1b2138, 0x4d2c6dfc, 0x53380d13, 0x650a7354, 0x766a0abb, 0x81c2c92e, 0x92722c85,
  0xa2bfe8a1, 0xa81a664b, 0xc24b8b70, 0xc76c51a3, 0xd192e819, 0xd6990624, 0xf40e3585, 0x106aa070,
  0x19a4c116, 0x1e376c08, 0x2748774c, 0x34b0bcb5, 0x391c0cb3, 0x4ed8aa4a, 0x5b9cca4f, 0x682e6ff3,
  0x748f82ee, 0x78a5636f, 0x84c87814, 0x8cc70208, 0x90befffa, 0xa4506ceb, 0xbef9a3f7, 0xc67178f2]
def sg0 (x : UInt32) : UInt32 := rr x 7 ^^^ rr x 18 ^^^ x >>> UInt32.ofNat 3
def sg1 (y : UInt32) : UInt32 := rr y 17 ^^^ rr y 19 ^^^ y >>> UInt32.ofNat 10
def at32 (w : List UInt32) (i : Nat) : UInt32 := w.getD i 0
def nextW (w : List UInt32) (i : Nat) : UInt32 := at32 w (i - 16) + sg0 (at32 w (i - 15)) + at32 w (i - 7) + sg1 (at32 w (i - 2))
/-- a block's words -/
def sch (b : List UInt8) : Nat → List UInt32
  | 0 => []
  | i + 1 => sch b i ++ [if i < 16 then wordOf ((b.drop (4 * i)).take 4) else nextW (sch b i) i]
def rndT (k w : UInt32) (s : S8) : UInt32 := s.h + (rr s.e 6 ^^^ rr s.e 11 ^^^ rr s.e 25) + (s.e &&& s.f ^^^ ~~~s.e &&& s.g) + k + w
def rndU (s : S8) : UInt32 := rr s.a 2 ^^^ rr s.a 13 ^^^ rr s.a 22
def rndV (s : S8) : UInt32 := s.a &&& s.b ^^^ s.a &&& s.c ^^^ s.b &&& s.c
def rnd (k w : UInt32) (s : S8) : S8 := ⟨rndT k w s + (rndU s + rndV s), s.a, s.b, s.c, s.d + rndT k w s, s.e, s.f, s.g⟩
def rnds (ks ws : List UInt32) (s : S8) : Nat → S8
  | 0 => s
  | i + 1 => rnd (at32 ks i) (at32 ws i) (rnds ks ws s i)
def S8.add (s t : S8) : S8 := ⟨s.a + t.a, s.b + t.b, s.c + t.c, s.d + t.d, s.e + t.e, s.f + t.f, s.g + t.g, s.h + t.h⟩
/-- a block taken in -/
def comp (s : S8) (b : List UInt8) : S8 := s.add (rnds numsK (sch b 64) s 64)
abbrev S8.list (s : S8) : List UInt32 := [s.a, s.b, s.c, s.d, s.e, s.f, s.g, s.h]
theorem words_one {xs : List UInt32} : ∀ x ∈ xs, ∀ c ∈ wcells x, c.oneCell' = true := by
  intro x _ c hc
  simp at hc
  subst hc
  rfl
theorem Own.words {w : World} {e n : Nat} {v : Value} {xs : List UInt32} (h : Own w e 1 v n ((xs.map wcells).flatten)) (hn : xs.length = n) : Rep [] w (woD xs) v := Own.flat h (fun _ _ => rfl) words_one hn (by simp)
theorem Blk.c1 {w : World} {g T i : Nat} {cs : List Value} {v : Value} (h : Blk w g T cs) (hi : cs[i]? = some v) : w.cell? ⟨g, 0 + i * 1, none⟩ = some v := by
  rw [Nat.zero_add, Nat.mul_one]
  exact h.cell hi
theorem Cs.c1 {w : World} {g i : Nat} {cs : List Value} {v : Value} (h : Cs w ⟨g, 0, none⟩ cs) (hi : cs[i]? = some v) : w.cell? ⟨g, 0 + i * 1, none⟩ = some v := by
  have := h i v hi
  rw [Addr.add_lit] at this
  rw [Nat.mul_one]
  exact this
section
variable {P : Program} {ops : Array Oper} {Q : Exit → Act → World → Prop} {n : Nat} {ds : List Deferred} {l : List (Nat × Value)} {w w' : World}
variable {rest : List Oper} {ty : TypeId} {pos : String} {af : Array Edge} {x y : Operand} {t : TypeId}
end
end Go.Proofs.YtkhbnhdlelmbnaaDoor.V

set_option linter.unusedVariables false
set_option linter.unusedSimpArgs false
namespace Go.Proofs.YtkhbnhdlelmbnaaDoor.V
open Go
theorem bytes_one {b : List UInt8} : ∀ x ∈ b, ∀ c ∈ bcells x, c.oneCell' = true := by
  intro x _ c hc
  simp at hc
  subst hc
  rfl
theorem Own.byts {w : World} {e n : Nat} {v : Value} {b : List UInt8} (A : List Nat) (h : Own w e 1 v n ((b.map bcells).flatten)) (hn : b.length = n) (hA : ∀ x ∈ ob v, x ∉ A) : Rep A w (byD b) v := Own.flat h (fun _ _ => rfl) bytes_one hn hA
theorem Own.as {w : World} {e sz m n : Nat} {v : Value} {us vs : List Value} (h : Own w e sz v n vs) (hm : n = m) (hv : vs = us) : Own w e sz v m us := by
  subst hm; subst hv; exact h
end Go.Proofs.YtkhbnhdlelmbnaaDoor.V

set_option linter.unusedVariables false
set_option linter.unusedSimpArgs false
namespace Go.Proofs.YtkhbnhdlelmbnaaDoor.V
open Go
def lenb (n i : Nat) : UInt8 := UInt8.ofNat (n * 8 / 256 ^ i)
/-- the first k of the eight bytes of the length, the highest first -/
def lens (n k : Nat) : List UInt8 := (List.range k).map fun i => lenb n (7 - i)
/-- a word's byte: the j-th from below -/
def wb (x : UInt32) (j : Nat) : UInt8 := (x >>> UInt32.ofNat (8 * j)).toUInt8
end Go.Proofs.YtkhbnhdlelmbnaaDoor.V

set_option linter.unusedVariables false
set_option linter.unusedSimpArgs false
namespace Go.Proofs.YtkhbnhdlelmbnaaDoor.V
open Go
end Go.Proofs.YtkhbnhdlelmbnaaDoor.V

set_option linter.unusedVariables false
set_option linter.unusedSimpArgs false
namespace Go.Proofs.YtkhbnhdlelmbnaaDoor.V
open Go
section
variable {P : Program} {l : List (Nat × Value)} {w : World} {ty : TypeId} {pos : String} {af : Array Edge}
variable {dd : Option Nat} {gg : Option (Nat × Bool)} {x y : Operand} {t : TypeId}
end
theorem Own.block {w : World} {e c i : Nat} {ad : Option Addr} {t : List UInt8} (h : Own w e 1 (.slice ad t.length c) t.length ((t.map bcells).flatten)) (hi : 64 * i + 64 ≤ t.length) : Rep [] w (byD ((t.drop (64 * i)).take 64)) (.slice (adS ad c (64 * i) 1) (64 * i + 64 - 64 * i) (c - 64 * i)) := by
  have h1 := h.cut (lo := 64 * i) (hi := 64 * i + 64) (by omega) hi
  have h2 := flat_drop_ (cells := bcells) (sz := 1) (xs := t) (fun _ => rfl) (64 * i)
  have h3 := flat_take_ (cells := bcells) (sz := 1) (xs := t.drop (64 * i)) (fun _ => rfl) (64 * i + 64 - 64 * i)
  rw [h2, h3] at h1
  have h4 : 64 * i + 64 - 64 * i = 64 := by omega
  rw [h4] at h1 ⊢
  exact Own.byts [] h1 (by rw [List.length_take, List.length_drop]; omega) (by simp)
end Go.Proofs.YtkhbnhdlelmbnaaDoor.V

set_option linter.unusedVariables false
set_option linter.unusedSimpArgs false
namespace Go.Proofs.YtkhbnhdlelmbnaaDoor.V
open Go
section
variable {P : Program} {l : List (Nat × Value)} {w : World} {ty : TypeId} {pos : String} {af : Array Edge}
variable {dd : Option Nat} {gg : Option (Nat × Bool)} {x y : Operand} {t t' : TypeId}
variable {ops : Array Oper} {Q : Exit → Act → World → Prop} {n : Nat} {ds : List Deferred} {rest : List Oper} {d : Nat}
end
end Go.Proofs.YtkhbnhdlelmbnaaDoor.V

set_option linter.unusedVariables false
set_option linter.unusedSimpArgs false
namespace Go.Proofs.YtkhbnhdlelmbnaaDoor.V
open Go
section
variable {P : Program} {ops : Array Oper} {Q : Exit → Act → World → Prop} {n : Nat} {ds : List Deferred} {l : List (Nat × Value)} {w w' : World}
variable {rest : List Oper} {ty : TypeId} {pos : String} {af : Array Edge} {x y : Operand}
end
end Go.Proofs.YtkhbnhdlelmbnaaDoor.V

set_option linter.unusedVariables false
set_option linter.unusedSimpArgs false
namespace Go.Proofs.YtkhbnhdlelmbnaaDoor.V
open Go
def l62 (url : Bool) (c : Nat) : Bool := (decide ((c : Int) = 43) && !url) || (decide ((c : Int) = 45) && url)
def l63 (url : Bool) (c : Nat) : Bool := (decide ((c : Int) = 47) && !url) || (decide ((c : Int) = 95) && url)
/-- a letter's number -/
def lv (url : Bool) (c : Nat) : Option Nat :=
  if kG c = true then some (c - 65) else if kS c = true then some (c - 97 + 26) else if kD c = true then some (c - 48 + 52) else if l62 url c = true then some 62 else if l63 url c = true then some 63 else none
theorem lv_hi (url : Bool) (c : Nat) (h : 128 ≤ c) : lv url c = none := by
  unfold lv kG kS kD l62 l63
  simp only [Bool.or_eq_true, Bool.and_eq_true, decide_eq_true_eq]
  rw [if_neg (by omega), if_neg (by omega), if_neg (by omega), if_neg (by omega), if_neg (by omega)]
theorem lv_lt {url : Bool} {c x : Nat} (h : lv url c = some x) : x < 64 := by
  unfold lv kG kS kD at h
  simp only [Bool.and_eq_true, decide_eq_true_eq] at h
  split at h
  · injection h with h; omega
  · split at h
    · injection h with h; omega
    · split at h
      · injection h with h; omega
      · split at h
        · injection h with h; omega
        · split at h
          · injection h with h; omega
          · cases h
/-- 2 ^ (6k mod 8) -/
def pw6 (k : Nat) : Nat := if k % 4 = 0 then 1 else if k % 4 = 1 then 64 else if k % 4 = 2 then 16 else 4
/-- the bits left over behind so many letters -/
def rest (url : Bool) (s : Str) (k : Nat) : Nat := match k with
  | 0 => 0
  | k + 1 => ((lv url ((s.getD k 0).toNat)).getD 0) % pw6 (k + 1)
def decOK (url : Bool) (s : Str) : Bool := s.all (fun b => (lv url b.toNat).isSome) && !decide (((6 * s.length % 8 : Nat) : Int) ≥ 6) && !decide ((rest url s s.length : Int) ≠ 0)
theorem rest_succ {url : Bool} {s : Str} {k x : Nat} {b : UInt8} (h : s[k]? = some b) (hx : lv url b.toNat = some x) : rest url s (k + 1) = x % pw6 (k + 1) := by
  show ((lv url ((s.getD k 0).toNat)).getD 0) % pw6 (k + 1) = _
  rw [List.getD_eq_getElem?_getD, h]
  simp [hx]
theorem pw_pos (k : Nat) : 0 < pw6 k := by
  unfold pw6
  repeat' split
  all_goals omega
theorem pw_le (k : Nat) : pw6 k ≤ 64 := by
  unfold pw6
  repeat' split
  all_goals omega
theorem rest_lt (url : Bool) (s : Str) (k : Nat) : rest url s k < 64 := by
  cases k with
  | zero => show 0 < 64; omega
  | succ k =>
    have h1 : rest url s (k + 1) < pw6 (k + 1) := Nat.mod_lt _ (pw_pos _)
    have := pw_le (k + 1)
    omega
theorem rest_zero {url : Bool} {s : Str} {k : Nat} (h : k % 4 = 0) : rest url s k = 0 := by
  cases k with
  | zero => rfl
  | succ k =>
    show _ % pw6 (k + 1) = 0
    have : pw6 (k + 1) = 1 := by unfold pw6; rw [if_pos h]
    rw [this, Nat.mod_one]
theorem dec_no {url : Bool} {s : Str} {k : Nat} {b : UInt8} (h : s[k]? = some b) (hb : lv url b.toNat = none) : decOK url s = false := by
  unfold decOK
  have : s.all (fun b => (lv url b.toNat).isSome) = false := by
    rw [List.all_eq_false]
    exact ⟨b, List.mem_of_getElem? h, by simp [hb]⟩
  rw [this]
  rfl
/-! ### the words -/
theorem or64 {h x : Nat} (hh : h < 64) (hx : x < 64) : IntKind.u64.wrap (BitVec.ofInt IntKind.u64.bits ((h * 64 : Nat) : Int) ||| BitVec.ofInt IntKind.u64.bits (x : Int)).toNat = ((h * 64 + x : Nat) : Int) := by
  have : ∀ h x : Fin 64, IntKind.u64.wrap (BitVec.ofInt IntKind.u64.bits ((h.val * 64 : Nat) : Int) ||| BitVec.ofInt IntKind.u64.bits (x.val : Int)).toNat = ((h.val * 64 + x.val : Nat) : Int) := by decide +kernel
  exact this ⟨h, hh⟩ ⟨x, hx⟩
theorem and_m {m : Nat} (hm : m < 4096) {q : Nat} (hq : q = 1 ∨ q = 4 ∨ q = 16 ∨ q = 64) : IntKind.u64.wrap (BitVec.ofInt IntKind.u64.bits (m : Int) &&& BitVec.ofInt IntKind.u64.bits ((q - 1 : Nat) : Int)).toNat = ((m % q : Nat) : Int) := by
  have e1 : ∀ z : Nat, z < 4096 → BitVec.ofInt IntKind.u64.bits (z : Int) = BitVec.ofNat 64 z := fun z _ => rfl
  rw [e1 m hm, e1 (q - 1) (by omega)]
  have h2 : ((BitVec.ofNat 64 m &&& BitVec.ofNat 64 (q - 1)).toNat) = m % q := by
    rw [BitVec.toNat_and, BitVec.toNat_ofNat, BitVec.toNat_ofNat, Nat.mod_eq_of_lt (by omega), Nat.mod_eq_of_lt (by omega)]
    rcases hq with rfl | rfl | rfl | rfl
    · simp [Nat.mod_one]
    · exact Nat.and_two_pow_sub_one_eq_mod m 2
    · exact Nat.and_two_pow_sub_one_eq_mod m 4
    · exact Nat.and_two_pow_sub_one_eq_mod m 6
  have : m % q ≤ m := Nat.mod_le _ _
  refine (congrArg (fun n : Nat => IntKind.u64.wrap (n : Int)) h2).trans ?_
  show ((m % q : Nat) : Int) % 18446744073709551616 = _
  exact Int.emod_eq_of_lt (by omega) (by omega)
theorem pw_or (k : Nat) : pw6 k = 1 ∨ pw6 k = 4 ∨ pw6 k = 16 ∨ pw6 k = 64 := by
  unfold pw6
  repeat' split
  all_goals simp
theorem mod_pw (h x k : Nat) : (h * 64 + x) % pw6 k = x % pw6 k := by
  rcases pw_or k with e | e | e | e <;> rw [e] <;> omega
theorem wrapi32_in (z : Int) (h : -2147483648 ≤ z ∧ z ≤ 2147483647) : IntKind.i32.wrap z = z := by
  rw [IntKind.wrap_i32 z]
  omega
theorem shl6 {h : Nat} (hh : h < 64) : IntKind.u64.wrap ((h : Int) * 2 ^ (min (6 : Int).toNat IntKind.u64.bits)) = ((h * 64 : Nat) : Int) := by
  have : (2 : Int) ^ (min (6 : Int).toNat IntKind.u64.bits) = 64 := by decide
  rw [this, wrapu64_in _ (by omega)]
  omega
theorem shl_pw {k m : Nat} (hm : m = 6 * k % 8) : IntKind.u64.wrap ((1 : Int) * 2 ^ (min (m : Int).toNat IntKind.u64.bits)) = (pw6 k : Int) := by
  have h4 : k % 4 = 0 ∨ k % 4 = 1 ∨ k % 4 = 2 ∨ k % 4 = 3 := by omega
  rcases h4 with h | h | h | h
  · obtain rfl : m = 0 := by omega
    unfold pw6; rw [if_pos h]; decide
  · obtain rfl : m = 6 := by omega
    unfold pw6; rw [if_neg (by omega), if_pos h]; decide
  · obtain rfl : m = 4 := by omega
    unfold pw6; rw [if_neg (by omega), if_neg (by omega), if_pos h]; decide
  · obtain rfl : m = 2 := by omega
    unfold pw6; rw [if_neg (by omega), if_neg (by omega), if_neg (by omega)]; decide
theorem u8_ex (z : Int) : ∃ c : UInt8, IntKind.u8.wrap z = (c.toNat : Int) := by
  have h1 : IntKind.u8.wrap z = z % 256 := rfl
  refine ⟨UInt8.ofNat (z % 256).toNat, ?_⟩
  rw [h1, UInt8.toNat_ofNat_of_lt' (by have : (z % 256).toNat < 256 := by omega
                                       exact this)]
  omega
theorem own_byte {w : World} {v : Value} {bs : Str} {n : Nat} {z : Int} (h : Own w 5 1 v n ((bs.map b8c).flatten ++ [.int .u8 (IntKind.u8.wrap z)])) (hn : n = bs.length + 1) : ∃ cb, OwB w v (bs ++ [cb]) := by
  obtain ⟨c, hc⟩ := u8_ex z
  refine ⟨c, h.same (by rw [hn]; simp) ?_⟩
  rw [hc]
  simp [cells_b8, B8]
/-- what reading letters answers -/
def DecR (w w' : World) (url : Bool) (s : Str) (u : Value) : Prop := ∃ v bs o, u = .tuple #[v, .bool o] ∧ o = decOK url s ∧ OwB w' v bs ∧ bs.length = (if decOK url s = true then s.length * 6 / 8 else 0) ∧ ∀ x ∈ ob v, w.heap.size ≤ x
theorem DecR.no {w w' : World} {url : Bool} {s : Str} (h : decOK url s = false) : DecR w w' url s (.tuple #[.slice none 0 0, .bool false]) := ⟨_, [], _, rfl, h.symm, Own.nil _ 5 1, by rw [h]; rfl, by simp [ob]⟩
theorem DecR.yes {w w' : World} {url : Bool} {s bs : Str} {v : Value} (h : decOK url s = true) (O : OwB w' v bs) (hl : bs.length = s.length * 6 / 8) (L : ∀ x ∈ ob v, w.heap.size ≤ x) : DecR w w' url s (.tuple #[v, .bool true]) := ⟨_, bs, _, rfl, h.symm, O, by rw [h, hl]; rfl, L⟩
def eventB (s : Str) : Bool := decide (s.head? = some 36) && decOK true (s.drop 1) && decide ((s.drop 1).length * 6 / 8 = 32)
def bytesB (s : Str) (n : Nat) : Bool := decOK false s && decide (s.length * 6 / 8 = n)
end Go.Proofs.YtkhbnhdlelmbnaaDoor.V
