/-
  A part of the proof: the document's names: its answers in the words of the walk. No condition of its own.
-/
import Derived.Test.YtkhbnhdlelmbnaaGreatDoorM14
set_option linter.unusedVariables false
set_option linter.unusedSimpArgs false
set_option maxRecDepth 10000
namespace Go.Proofs.YtkhbnhdlelmbnaaGreatDoor.V
open Go Go.Proofs
theorem ent134 : Ent Tryz.prog 134 := Ent.of Tryz.func134 (by kernel_rfl) (by kernel_rfl)
theorem ent133 : Ent Tryz.prog 133 := Ent.of Tryz.func133 (by kernel_rfl) (by kernel_rfl)
theorem ent116 : Ent Tryz.prog 116 := Ent.of Tryz.func116 (by kernel_rfl) (by kernel_rfl)
theorem ent121 : Ent Tryz.prog 121 := Ent.of Tryz.func121 (by kernel_rfl) (by kernel_rfl)
theorem ent114 : Ent Tryz.prog 114 := Ent.of Tryz.func114 (by kernel_rfl) (by kernel_rfl)
theorem ent115 : Ent Tryz.prog 115 := Ent.of Tryz.func115 (by kernel_rfl) (by kernel_rfl)
theorem ent117 : Ent Tryz.prog 117 := Ent.of Tryz.func117 (by kernel_rfl) (by kernel_rfl)
theorem ent139 : Ent Tryz.prog 139 := Ent.of Tryz.func139 (by kernel_rfl) (by kernel_rfl)
theorem ent138 : Ent Tryz.prog 138 := Ent.of Tryz.func138 (by kernel_rfl) (by kernel_rfl)
theorem c_cut' (w : World) (s : Str) (hs : s.length < 4294967281) (hM : MaxL w) : Calls Tryz.prog 133 [S s, S [58]].toArray w (Ret fun u w' => u = .tuple #[S (s.take (colonAt s)), S (s.drop (colonAt s + 1)), .bool (decide (colonAt s < s.length))] ∧ Mod [] w w') := by
 have := c_cut w s hs hM
 rw [cut_colon'] at this
 exact this

theorem c_server (w : World) (s : Str) (hs : s.length < 4294967281) (hM : MaxL w) : Calls Tryz.prog 115 [S s].toArray w (Ret fun u w' => u = .bool (serverB s) ∧ Mod [] w w') := by
 refine enter Tryz.func115 rfl rfl rfl (l := [(0, _)]) ⟨rfl, trivial⟩ ?_
 have E := Mod.refl [] w
 refine Cq fun K1 hK1 => Cr (Za rfl (Ln (e_K (hK1 _ _ _ _ (Cq fun K2 hK2 => Cr (Zm rfl (sc (oC ent133 rfl) (c_cut' _ s hs (hM.mod0 E)) rfl fun v_ w1 h_ => ?_)))))))
 obtain ⟨rfl, E_⟩ := h_
 replace E := E.then E_
 refine Zm rfl (Sv (o_ext rfl rfl) (Sv (o_ext rfl rfl) (Sv (o_ext rfl rfl) (Za rfl (Za rfl (Za rfl (Ln (e_K (hK2 _ _ _ _ (Cq fun K3 hK3 => Cr (Zm rfl (sc (oC ent116 rfl) (c_all _ (s.take (colonAt s)) 134 qServer ent134 (fun w c h1 h2 => c_kServer w c h1 h2) qServer_lt) rfl fun v_ w2 h_ => ?_))))))))))))
 obtain ⟨rfl, E_⟩ := h_
 replace E := E.then E_
 refine Za rfl (Ln (e_K (hK3 _ _ _ _ (Cq fun K4 hK4 => ?_))))
 by_cases hk0 : (allB qServer (s.take (colonAt s))) = true
 ·by_cases hk1 : (s.length : Int) ≤ 255
  ·by_cases hk2 : (!decide (colonAt s < s.length)) = true
   ·refine Cr (Zm rfl (Zm rfl (Sg rfl hk0 (oM rfl) (Sg rfl hk0 (o_slen Tryz.underlying9 rfl) (Sg rfl hk0 (o_leq rfl rfl) (Sv (oT hk0 rfl rfl) (Zm rfl (Sg rfl (dT hk1) (oM rfl) (Sg rfl (dT hk1) (o_not rfl) (Sg rfl (dT hk1) (oM rfl) (Sx rfl hk2 (Sx rfl hk2 (Sx rfl hk2 ?_)))))))))))))
    exact Sx rfl hk2 (snu rfl rfl rfl (snu rfl rfl rfl (Sx rfl hk2 (Sg rfl (dT hk1) (oT hk2 rfl rfl) (Sv (oT (dT hk1) rfl rfl) (Za rfl (Ln (e_K (hK4 _ _ _ _ (cR (ret1 rfl rfl ⟨congrArg Value.bool (by rw [serverB, server_e1, server_e2, len_e3]; simp only [hk0, dT hk1, hk2, Bool.true_and, Bool.and_true, Bool.false_and, Bool.and_false, Bool.true_or, Bool.or_true, Bool.false_or, Bool.or_false, Bool.not_true, Bool.not_false]), E⟩)))))))))))
   ·by_cases hk3 : ((s.drop (colonAt s + 1)).length : Int) ≤ 5
    ·by_cases hk4 : (allB kD (s.drop (colonAt s + 1))) = true
     ·refine Cr (Zm rfl (Zm rfl (Sg rfl hk0 (oM rfl) (Sg rfl hk0 (o_slen Tryz.underlying9 rfl) (Sg rfl hk0 (o_leq rfl rfl) (Sv (oT hk0 rfl rfl) (Zm rfl (Sg rfl (dT hk1) (oM rfl) (Sg rfl (dT hk1) (o_not rfl) (Sg rfl (dT hk1) (oM rfl) (Sg rfl (bF hk2) (oM rfl) (Sg rfl (bF hk2) (o_slen Tryz.underlying9 rfl) (Sg rfl (bF hk2) (o_leq rfl rfl) ?_)))))))))))))
      refine Sg rfl (bF hk2) (oM rfl) (Sg rfl (dT hk3) (oM rfl) (sgc rfl (dT hk3) (oC ent116 rfl) (c_all _ (s.drop (colonAt s + 1)) 120 kD ent120 (fun w c h1 h2 => c_digit w c) kD_lt) rfl fun v_ w3 h_ => ?_))
      obtain ⟨rfl, E_⟩ := h_
      replace E := E.then E_
      exact Sg rfl (bF hk2) (oT (dT hk3) rfl rfl) (Sg rfl (dT hk1) (oF (bF hk2) rfl rfl) (Sv (oT (dT hk1) rfl rfl) (Za rfl (Ln (e_K (hK4 _ _ _ _ (cR (ret1 rfl rfl ⟨congrArg Value.bool (by rw [serverB, server_e1, server_e2, len_e3]; simp only [hk0, dT hk1, bF hk2, dT hk3, hk4, Bool.true_and, Bool.and_true, Bool.false_and, Bool.and_false, Bool.true_or, Bool.or_true, Bool.false_or, Bool.or_false, Bool.not_true, Bool.not_false]), E⟩))))))))
     ·refine Cr (Zm rfl (Zm rfl (Sg rfl hk0 (oM rfl) (Sg rfl hk0 (o_slen Tryz.underlying9 rfl) (Sg rfl hk0 (o_leq rfl rfl) (Sv (oT hk0 rfl rfl) (Zm rfl (Sg rfl (dT hk1) (oM rfl) (Sg rfl (dT hk1) (o_not rfl) (Sg rfl (dT hk1) (oM rfl) (Sg rfl (bF hk2) (oM rfl) (Sg rfl (bF hk2) (o_slen Tryz.underlying9 rfl) (Sg rfl (bF hk2) (o_leq rfl rfl) ?_)))))))))))))
      refine Sg rfl (bF hk2) (oM rfl) (Sg rfl (dT hk3) (oM rfl) (sgc rfl (dT hk3) (oC ent116 rfl) (c_all _ (s.drop (colonAt s + 1)) 120 kD ent120 (fun w c h1 h2 => c_digit w c) kD_lt) rfl fun v_ w4 h_ => ?_))
      obtain ⟨rfl, E_⟩ := h_
      replace E := E.then E_
      exact Sg rfl (bF hk2) (oT (dT hk3) rfl rfl) (Sg rfl (dT hk1) (oF (bF hk2) rfl rfl) (Sv (oT (dT hk1) rfl rfl) (Za rfl (Ln (e_K (hK4 _ _ _ _ (cR (ret1 rfl rfl ⟨congrArg Value.bool (by rw [serverB, server_e1, server_e2, len_e3]; simp only [hk0, dT hk1, bF hk2, dT hk3, bF hk4, Bool.true_and, Bool.and_true, Bool.false_and, Bool.and_false, Bool.true_or, Bool.or_true, Bool.false_or, Bool.or_false, Bool.not_true, Bool.not_false]), E⟩))))))))
    ·refine Cr (Zm rfl (Zm rfl (Sg rfl hk0 (oM rfl) (Sg rfl hk0 (o_slen Tryz.underlying9 rfl) (Sg rfl hk0 (o_leq rfl rfl) (Sv (oT hk0 rfl rfl) (Zm rfl (Sg rfl (dT hk1) (oM rfl) (Sg rfl (dT hk1) (o_not rfl) (Sg rfl (dT hk1) (oM rfl) (Sg rfl (bF hk2) (oM rfl) (Sg rfl (bF hk2) (o_slen Tryz.underlying9 rfl) (Sg rfl (bF hk2) (o_leq rfl rfl) ?_)))))))))))))
     exact Sg rfl (bF hk2) (oM rfl) (Sx rfl (dF hk3) (Sx rfl (dF hk3) (Sg rfl (bF hk2) (oF (dF hk3) rfl rfl) (Sg rfl (dT hk1) (oF (bF hk2) rfl rfl) (Sv (oT (dT hk1) rfl rfl) (Za rfl (Ln (e_K (hK4 _ _ _ _ (cR (ret1 rfl rfl ⟨congrArg Value.bool (by rw [serverB, server_e1, server_e2, len_e3]; simp only [hk0, dT hk1, bF hk2, dF hk3, Bool.true_and, Bool.and_true, Bool.false_and, Bool.and_false, Bool.true_or, Bool.or_true, Bool.false_or, Bool.or_false, Bool.not_true, Bool.not_false]), E⟩)))))))))))
  ·refine Cr (Zm rfl (Zm rfl (Sg rfl hk0 (oM rfl) (Sg rfl hk0 (o_slen Tryz.underlying9 rfl) (Sg rfl hk0 (o_leq rfl rfl) (Sv (oT hk0 rfl rfl) (Zm rfl (Sx rfl (dF hk1) (Sx rfl (dF hk1) (Sx rfl (dF hk1) (snu rfl rfl rfl (snu rfl rfl rfl (snu rfl rfl rfl ?_)))))))))))))
   exact snu rfl rfl rfl (snu rfl rfl rfl (snu rfl rfl rfl (snu rfl rfl rfl (Sx rfl (dF hk1) (Sv (oF (dF hk1) rfl rfl) (Za rfl (Ln (e_K (hK4 _ _ _ _ (cR (ret1 rfl rfl ⟨congrArg Value.bool (by rw [serverB, server_e1, server_e2, len_e3]; simp only [hk0, dF hk1, Bool.true_and, Bool.and_true, Bool.false_and, Bool.and_false, Bool.true_or, Bool.or_true, Bool.false_or, Bool.or_false, Bool.not_true, Bool.not_false]), E⟩)))))))))))
 ·refine Cr (Zm rfl (Zm rfl (Sx rfl (bF hk0) (Sx rfl (bF hk0) (Sx rfl (bF hk0) (Sv (oF (bF hk0) rfl rfl) (Zm rfl (Sx rfl rfl (Sx rfl rfl (Sx rfl rfl (snu rfl rfl rfl (snu rfl rfl rfl (snu rfl rfl rfl ?_)))))))))))))
  exact snu rfl rfl rfl (snu rfl rfl rfl (snu rfl rfl rfl (snu rfl rfl rfl (Sx rfl rfl (Sv (oF rfl rfl rfl) (Za rfl (Ln (e_K (hK4 _ _ _ _ (cR (ret1 rfl rfl ⟨congrArg Value.bool (by rw [serverB, server_e1, server_e2, len_e3]; simp only [bF hk0, Bool.true_and, Bool.and_true, Bool.false_and, Bool.and_false, Bool.true_or, Bool.or_true, Bool.false_or, Bool.or_false, Bool.not_true, Bool.not_false]), E⟩)))))))))))

theorem c_parts (w : World) (s : Str) (sign : UInt8) (hs : s.length < 4294967281) (hM : MaxL w) : Calls Tryz.prog 114 [S s, .int .u8 (sign.toNat : Int)].toArray w (Ret fun u w' => (∃ a b o, u = .tuple #[S a, S b, .bool o] ∧ o = (partG sign s && decide (colonAt (s.drop 1) < (s.drop 1).length)) ∧ (o = true → a = (s.drop 1).take (colonAt (s.drop 1)) ∧ b = (s.drop 1).drop (colonAt (s.drop 1) + 1))) ∧ Mod [] w w') := by
 refine enter Tryz.func114 rfl rfl rfl (l := [(0, _), (1, _)]) ⟨rfl, rfl, trivial⟩ ?_
 have E := Mod.refl [] w
 refine Cq fun K1 hK1 => Cr (Za rfl (Za rfl (Za rfl (Ln (e_K (hK1 _ _ _ _ (Cq fun K2 hK2 => Cq fun K3 hK3 => ?_)))))))
 by_cases hk0 : s = []
 ·refine Cr (Zm rfl (Sv (o_seq rfl rfl) (Zm rfl (Sx rfl (dT hk0) (Sx rfl (dT hk0) (Sx rfl (dT hk0) (Sx rfl (dT hk0) (Sv (oT (dT hk0) rfl rfl) (Zm rfl (Sx rfl rfl (Sx rfl rfl (Sx rfl rfl (Sv (oT rfl rfl rfl) ?_)))))))))))))
  refine Ln (e_K (hK3 _ _ _ _ (c_true rfl ?_)))
  have hg : partG sign s = false := by subst hk0; rfl
  exact Cq fun K4 hK4 => Cr (Za rfl (Za rfl (Za rfl (Ln (e_K (hK4 _ _ _ _ (cR (eT (by simp) (ret3 rfl rfl rfl rfl ⟨⟨[], [], false, rfl, by rw [hg]; rfl, fun h => by cases h⟩, E⟩)))))))))
 ·obtain ⟨b0, r, rfl⟩ : ∃ b r, s = b :: r := List.exists_cons_of_ne_nil hk0
  by_cases hk1 : (b0.toNat : Int) ≠ (sign.toNat : Int)
  ·refine Cr (Zm rfl (Sv (o_seq rfl rfl) (Zm rfl (Sg rfl (dF hk0) (oM rfl) (Sg rfl (dF hk0) (o_sidx Tryz.underlying9 rfl rfl (by omega) rfl) (Sg rfl (dF hk0) (oM rfl) (Sg rfl (dF hk0) (o_neq rfl rfl) (Sv (oF (dF hk0) rfl rfl) (Zm rfl (Sx rfl (dT hk1) (Sx rfl (dT hk1) (Sx rfl (dT hk1) (Sv (oT (dT hk1) rfl rfl) ?_)))))))))))))
   refine Ln (e_K (hK3 _ _ _ _ (c_true rfl ?_)))
   have hbs : b0 ≠ sign := fun h => hk1 (by rw [h])
   have hg : partG sign (b0 :: r) = false := by simp [partG, hbs]
   exact Cq fun K5 hK5 => Cr (Za rfl (Za rfl (Za rfl (Ln (e_K (hK5 _ _ _ _ (cR (eT (by simp) (ret3 rfl rfl rfl rfl ⟨⟨[], [], false, rfl, by rw [hg]; rfl, fun h => by cases h⟩, E⟩)))))))))
  ·by_cases hk2 : ((b0 :: r).length : Int) > 255
   ·refine Cr (Zm rfl (Sv (o_seq rfl rfl) (Zm rfl (Sg rfl (dF hk0) (oM rfl) (Sg rfl (dF hk0) (o_sidx Tryz.underlying9 rfl rfl (by omega) rfl) (Sg rfl (dF hk0) (oM rfl) (Sg rfl (dF hk0) (o_neq rfl rfl) (Sv (oF (dF hk0) rfl rfl) (Zm rfl (Sg rfl (dF hk1) (oM rfl) (Sg rfl (dF hk1) (o_slen Tryz.underlying9 rfl) (Sg rfl (dF hk1) (o_gtr rfl rfl) (Sv (oF (dF hk1) rfl rfl) ?_)))))))))))))
    refine Ln (e_K (hK3 _ _ _ _ ?_))
    refine c_if rfl (fun h19 => ?_) (fun h19 => absurd hk2 h19)
    have hg : partG sign (b0 :: r) = false := by
     simp only [List.length_cons] at hk2
     simp [partG]
     omega
    exact Cq fun K6 hK6 => Cr (Za rfl (Za rfl (Za rfl (Ln (e_K (hK6 _ _ _ _ (cR (eT (by simp) (ret3 rfl rfl rfl rfl ⟨⟨[], [], false, rfl, by rw [hg]; rfl, fun h => by cases h⟩, E⟩)))))))))
   ·refine Cr (Zm rfl (Sv (o_seq rfl rfl) (Zm rfl (Sg rfl (dF hk0) (oM rfl) (Sg rfl (dF hk0) (o_sidx Tryz.underlying9 rfl rfl (by omega) rfl) (Sg rfl (dF hk0) (oM rfl) (Sg rfl (dF hk0) (o_neq rfl rfl) (Sv (oF (dF hk0) rfl rfl) (Zm rfl (Sg rfl (dF hk1) (oM rfl) (Sg rfl (dF hk1) (o_slen Tryz.underlying9 rfl) (Sg rfl (dF hk1) (o_gtr rfl rfl) (Sv (oF (dF hk1) rfl rfl) ?_)))))))))))))
    refine Ln (e_K (hK3 _ _ _ _ (c_if rfl (fun h19 => absurd h19 hk2) (fun h19 => ?_))))
    have hbs : b0 = sign := u8_eq (Classical.not_not.1 hk1)
    have hg : partG sign (b0 :: r) = true := by
     simp only [List.length_cons] at hk2
     simp [partG, hbs]
     omega
    refine cK (e_K (hK2 _ _ _ _ (Cq fun K7 hK7 => Cr (Zm rfl (Sv (o_ssfrom (n := 1) Tryz.underlying9 rfl rfl (by simp)) (sc (oC ent133 rfl) (c_cut' _ ((b0 :: r).drop 1) (by simp at hs ⊢; omega) (hM.mod0 E)) rfl fun v_ w1 h_ => ?_))))))
    obtain ⟨rfl, E_⟩ := h_
    replace E := E.then E_
    exact Sv (o_ext rfl rfl) (Sv (o_ext rfl rfl) (Sv (o_ext rfl rfl) (Za rfl (Za rfl (Za rfl (Ln (e_K (hK7 _ _ _ _ (cR (ret3 rfl rfl rfl rfl ⟨⟨_, _, _, rfl, by rw [hg, Bool.true_and], fun _ => ⟨rfl, rfl⟩⟩, E⟩))))))))))

theorem c_user (w : World) (s : Str) (hs : s.length < 4294967281) (hM : MaxL w) : Calls Tryz.prog 85 [S s].toArray w (Ret fun u w' => u = .bool (namedB 64 qUser s) ∧ Mod [] w w') := by
 refine enter Tryz.func85 rfl rfl rfl (l := [(0, _)]) ⟨rfl, trivial⟩ ?_
 have E := Mod.refl [] w
 refine Cq fun K1 hK1 => Cr (Za rfl (Ln (e_K (hK1 _ _ _ _ (Cq fun K2 hK2 => Cr (Zm rfl (sc (oC ent114 rfl) (c_parts _ s 64 hs (hM.mod0 E)) rfl fun v_ w1 h_ => ?_)))))))
 obtain ⟨⟨a, b, o, rfl, ho, hab⟩, E_⟩ := h_
 replace E := E.then E_
 refine Zm rfl (Sv (o_ext rfl rfl) (Sv (o_ext rfl rfl) (Sv (o_ext rfl rfl) (Za rfl (Za rfl (Za rfl (Ln (e_K (hK2 _ _ _ _ (Cq fun K3 hK3 => ?_))))))))))
 by_cases hk0 : (o) = true
 ·obtain ⟨ha_, hb_⟩ := hab hk0
  subst ha_
  subst hb_
  by_cases hk1 : (serverB ((s.drop 1).drop (colonAt (s.drop 1) + 1))) = true
  ·by_cases hk2 : (allB qUser ((s.drop 1).take (colonAt (s.drop 1)))) = true
   ·refine Cr (Zm rfl (Zm rfl (Sg rfl hk0 (oM rfl) (sgc rfl hk0 (oC ent115 rfl) (c_server _ ((s.drop 1).drop (colonAt (s.drop 1) + 1)) (by simp only [List.length_drop]; omega) (hM.mod0 E)) rfl fun v_ w2 h_ => ?_))))
    obtain ⟨rfl, E_⟩ := h_
    replace E := E.then E_
    refine Sv (oT hk0 rfl rfl) (Zm rfl (Sg rfl hk1 (oM rfl) (sgc rfl hk1 (oC ent116 rfl) (c_all _ ((s.drop 1).take (colonAt (s.drop 1))) 121 qUser ent121 (fun w c h1 h2 => c_kUser w c h1 h2) qUser_lt) rfl fun v_ w3 h_ => ?_)))
    obtain ⟨rfl, E_⟩ := h_
    replace E := E.then E_
    exact Sv (oT hk1 rfl rfl) (Za rfl (Ln (e_K (hK3 _ _ _ _ (cR (ret1 rfl rfl ⟨congrArg Value.bool (by rw [namedB_eq (by decide), ← ho]; simp only [hk0, hk1, hk2, Bool.true_and, Bool.and_true, Bool.false_and, Bool.and_false, Bool.true_or, Bool.or_true, Bool.false_or, Bool.or_false, Bool.not_true, Bool.not_false]), E⟩))))))
   ·refine Cr (Zm rfl (Zm rfl (Sg rfl hk0 (oM rfl) (sgc rfl hk0 (oC ent115 rfl) (c_server _ ((s.drop 1).drop (colonAt (s.drop 1) + 1)) (by simp only [List.length_drop]; omega) (hM.mod0 E)) rfl fun v_ w4 h_ => ?_))))
    obtain ⟨rfl, E_⟩ := h_
    replace E := E.then E_
    refine Sv (oT hk0 rfl rfl) (Zm rfl (Sg rfl hk1 (oM rfl) (sgc rfl hk1 (oC ent116 rfl) (c_all _ ((s.drop 1).take (colonAt (s.drop 1))) 121 qUser ent121 (fun w c h1 h2 => c_kUser w c h1 h2) qUser_lt) rfl fun v_ w5 h_ => ?_)))
    obtain ⟨rfl, E_⟩ := h_
    replace E := E.then E_
    exact Sv (oT hk1 rfl rfl) (Za rfl (Ln (e_K (hK3 _ _ _ _ (cR (ret1 rfl rfl ⟨congrArg Value.bool (by rw [namedB_eq (by decide), ← ho]; simp only [hk0, hk1, bF hk2, Bool.true_and, Bool.and_true, Bool.false_and, Bool.and_false, Bool.true_or, Bool.or_true, Bool.false_or, Bool.or_false, Bool.not_true, Bool.not_false]), E⟩))))))
  ·refine Cr (Zm rfl (Zm rfl (Sg rfl hk0 (oM rfl) (sgc rfl hk0 (oC ent115 rfl) (c_server _ ((s.drop 1).drop (colonAt (s.drop 1) + 1)) (by simp only [List.length_drop]; omega) (hM.mod0 E)) rfl fun v_ w6 h_ => ?_))))
   obtain ⟨rfl, E_⟩ := h_
   replace E := E.then E_
   exact Sv (oT hk0 rfl rfl) (Zm rfl (Sx rfl (bF hk1) (Sx rfl (bF hk1) (Sv (oF (bF hk1) rfl rfl) (Za rfl (Ln (e_K (hK3 _ _ _ _ (cR (ret1 rfl rfl ⟨congrArg Value.bool (by rw [namedB_eq (by decide), ← ho]; simp only [hk0, bF hk1, Bool.true_and, Bool.and_true, Bool.false_and, Bool.and_false, Bool.true_or, Bool.or_true, Bool.false_or, Bool.or_false, Bool.not_true, Bool.not_false]), E⟩))))))))))
 ·exact Cr (Zm rfl (Zm rfl (Sx rfl (bF hk0) (Sx rfl (bF hk0) (Sv (oF (bF hk0) rfl rfl) (Zm rfl (Sx rfl rfl (Sx rfl rfl (Sv (oF rfl rfl rfl) (Za rfl (Ln (e_K (hK3 _ _ _ _ (cR (ret1 rfl rfl ⟨congrArg Value.bool (by rw [namedB_eq (by decide), ← ho]; simp only [bF hk0, Bool.true_and, Bool.and_true, Bool.false_and, Bool.and_false, Bool.true_or, Bool.or_true, Bool.false_or, Bool.or_false, Bool.not_true, Bool.not_false]), E⟩)))))))))))))))

theorem c_room (w : World) (s : Str) (hs : s.length < 4294967281) (hM : MaxL w) : Calls Tryz.prog 84 [S s].toArray w (Ret fun u w' => u = .bool (namedB 33 qRoom s) ∧ Mod [] w w') := by
 refine enter Tryz.func84 rfl rfl rfl (l := [(0, _)]) ⟨rfl, trivial⟩ ?_
 have E := Mod.refl [] w
 refine Cq fun K1 hK1 => Cr (Za rfl (Ln (e_K (hK1 _ _ _ _ (Cq fun K2 hK2 => Cr (Zm rfl (sc (oC ent114 rfl) (c_parts _ s 33 hs (hM.mod0 E)) rfl fun v_ w1 h_ => ?_)))))))
 obtain ⟨⟨a, b, o, rfl, ho, hab⟩, E_⟩ := h_
 replace E := E.then E_
 refine Zm rfl (Sv (o_ext rfl rfl) (Sv (o_ext rfl rfl) (Sv (o_ext rfl rfl) (Za rfl (Za rfl (Za rfl (Ln (e_K (hK2 _ _ _ _ (Cq fun K3 hK3 => ?_))))))))))
 by_cases hk0 : (o) = true
 ·obtain ⟨ha_, hb_⟩ := hab hk0
  subst ha_
  subst hb_
  by_cases hk1 : (serverB ((s.drop 1).drop (colonAt (s.drop 1) + 1))) = true
  ·by_cases hk2 : (allB qRoom ((s.drop 1).take (colonAt (s.drop 1)))) = true
   ·refine Cr (Zm rfl (Zm rfl (Sg rfl hk0 (oM rfl) (sgc rfl hk0 (oC ent115 rfl) (c_server _ ((s.drop 1).drop (colonAt (s.drop 1) + 1)) (by simp only [List.length_drop]; omega) (hM.mod0 E)) rfl fun v_ w2 h_ => ?_))))
    obtain ⟨rfl, E_⟩ := h_
    replace E := E.then E_
    refine Sv (oT hk0 rfl rfl) (Zm rfl (Sg rfl hk1 (oM rfl) (sgc rfl hk1 (oC ent116 rfl) (c_all _ ((s.drop 1).take (colonAt (s.drop 1))) 117 qRoom ent117 (fun w c h1 h2 => c_kRoom w c h1 h2) qRoom_lt) rfl fun v_ w3 h_ => ?_)))
    obtain ⟨rfl, E_⟩ := h_
    replace E := E.then E_
    exact Sv (oT hk1 rfl rfl) (Za rfl (Ln (e_K (hK3 _ _ _ _ (cR (ret1 rfl rfl ⟨congrArg Value.bool (by rw [namedB_eq (by decide), ← ho]; simp only [hk0, hk1, hk2, Bool.true_and, Bool.and_true, Bool.false_and, Bool.and_false, Bool.true_or, Bool.or_true, Bool.false_or, Bool.or_false, Bool.not_true, Bool.not_false]), E⟩))))))
   ·refine Cr (Zm rfl (Zm rfl (Sg rfl hk0 (oM rfl) (sgc rfl hk0 (oC ent115 rfl) (c_server _ ((s.drop 1).drop (colonAt (s.drop 1) + 1)) (by simp only [List.length_drop]; omega) (hM.mod0 E)) rfl fun v_ w4 h_ => ?_))))
    obtain ⟨rfl, E_⟩ := h_
    replace E := E.then E_
    refine Sv (oT hk0 rfl rfl) (Zm rfl (Sg rfl hk1 (oM rfl) (sgc rfl hk1 (oC ent116 rfl) (c_all _ ((s.drop 1).take (colonAt (s.drop 1))) 117 qRoom ent117 (fun w c h1 h2 => c_kRoom w c h1 h2) qRoom_lt) rfl fun v_ w5 h_ => ?_)))
    obtain ⟨rfl, E_⟩ := h_
    replace E := E.then E_
    exact Sv (oT hk1 rfl rfl) (Za rfl (Ln (e_K (hK3 _ _ _ _ (cR (ret1 rfl rfl ⟨congrArg Value.bool (by rw [namedB_eq (by decide), ← ho]; simp only [hk0, hk1, bF hk2, Bool.true_and, Bool.and_true, Bool.false_and, Bool.and_false, Bool.true_or, Bool.or_true, Bool.false_or, Bool.or_false, Bool.not_true, Bool.not_false]), E⟩))))))
  ·refine Cr (Zm rfl (Zm rfl (Sg rfl hk0 (oM rfl) (sgc rfl hk0 (oC ent115 rfl) (c_server _ ((s.drop 1).drop (colonAt (s.drop 1) + 1)) (by simp only [List.length_drop]; omega) (hM.mod0 E)) rfl fun v_ w6 h_ => ?_))))
   obtain ⟨rfl, E_⟩ := h_
   replace E := E.then E_
   exact Sv (oT hk0 rfl rfl) (Zm rfl (Sx rfl (bF hk1) (Sx rfl (bF hk1) (Sv (oF (bF hk1) rfl rfl) (Za rfl (Ln (e_K (hK3 _ _ _ _ (cR (ret1 rfl rfl ⟨congrArg Value.bool (by rw [namedB_eq (by decide), ← ho]; simp only [hk0, bF hk1, Bool.true_and, Bool.and_true, Bool.false_and, Bool.and_false, Bool.true_or, Bool.or_true, Bool.false_or, Bool.or_false, Bool.not_true, Bool.not_false]), E⟩))))))))))
 ·exact Cr (Zm rfl (Zm rfl (Sx rfl (bF hk0) (Sx rfl (bF hk0) (Sv (oF (bF hk0) rfl rfl) (Zm rfl (Sx rfl rfl (Sx rfl rfl (Sv (oF rfl rfl rfl) (Za rfl (Ln (e_K (hK3 _ _ _ _ (cR (ret1 rfl rfl ⟨congrArg Value.bool (by rw [namedB_eq (by decide), ← ho]; simp only [bF hk0, Bool.true_and, Bool.and_true, Bool.false_and, Bool.and_false, Bool.true_or, Bool.or_true, Bool.false_or, Bool.or_false, Bool.not_true, Bool.not_false]), E⟩)))))))))))))))

theorem c_key (w : World) (s : Str) : Calls Tryz.prog 125 [S s].toArray w (Ret fun u w' => u = .bool (keyB s) ∧ Mod [] w w') := by
 refine enter Tryz.func125 rfl rfl rfl (l := [(0, _)]) ⟨rfl, trivial⟩ ?_
 have E := Mod.refl [] w
 refine Cq fun K1 hK1 => Cr (Za rfl (Ln (e_K (hK1 _ _ _ _ (Cq fun K2 hK2 => Cr (Zm rfl (sc (oC ent138 rfl) (c_cutp _ s edS) rfl fun v_ w1 h_ => ?_)))))))
 obtain ⟨rfl, E_⟩ := h_
 replace E := E.then E_
 refine Zm rfl (Sv (o_ext rfl rfl) (Sv (o_ext rfl rfl) (Za rfl (Za rfl (Ln (e_K (hK2 _ _ _ _ (Cq fun K3 hK3 => ?_))))))))
 by_cases hk0 : (Lib.hasPrefix s edS) = true
 ·by_cases hk1 : (s.length : Int) ≤ 255
  ·by_cases hk2 : (allB qKey (Lib.trimPrefix s edS)) = true
   ·refine Cr (Zm rfl (Zm rfl (Sg rfl hk0 (oM rfl) (Sg rfl hk0 (o_slen Tryz.underlying9 rfl) (Sg rfl hk0 (o_leq rfl rfl) (Sv (oT hk0 rfl rfl) (Zm rfl (Sg rfl (dT hk1) (oM rfl) (sgc rfl (dT hk1) (oC ent116 rfl) (c_all _ (Lib.trimPrefix s edS) 139 qKey ent139 (fun w c h1 h2 => c_kKey w c h1 h2) qKey_lt) rfl fun v_ w2 h_ => ?_)))))))))
    obtain ⟨rfl, E_⟩ := h_
    replace E := E.then E_
    exact Sv (oT (dT hk1) rfl rfl) (Za rfl (Ln (e_K (hK3 _ _ _ _ (cR (ret1 rfl rfl ⟨congrArg Value.bool (by rw [keyB_eq]; simp only [hk0, dT hk1, hk2, Bool.true_and, Bool.and_true, Bool.false_and, Bool.and_false, Bool.true_or, Bool.or_true, Bool.false_or, Bool.or_false, Bool.not_true, Bool.not_false]), E⟩))))))
   ·refine Cr (Zm rfl (Zm rfl (Sg rfl hk0 (oM rfl) (Sg rfl hk0 (o_slen Tryz.underlying9 rfl) (Sg rfl hk0 (o_leq rfl rfl) (Sv (oT hk0 rfl rfl) (Zm rfl (Sg rfl (dT hk1) (oM rfl) (sgc rfl (dT hk1) (oC ent116 rfl) (c_all _ (Lib.trimPrefix s edS) 139 qKey ent139 (fun w c h1 h2 => c_kKey w c h1 h2) qKey_lt) rfl fun v_ w3 h_ => ?_)))))))))
    obtain ⟨rfl, E_⟩ := h_
    replace E := E.then E_
    exact Sv (oT (dT hk1) rfl rfl) (Za rfl (Ln (e_K (hK3 _ _ _ _ (cR (ret1 rfl rfl ⟨congrArg Value.bool (by rw [keyB_eq]; simp only [hk0, dT hk1, bF hk2, Bool.true_and, Bool.and_true, Bool.false_and, Bool.and_false, Bool.true_or, Bool.or_true, Bool.false_or, Bool.or_false, Bool.not_true, Bool.not_false]), E⟩))))))
  ·refine Cr (Zm rfl (Zm rfl (Sg rfl hk0 (oM rfl) (Sg rfl hk0 (o_slen Tryz.underlying9 rfl) (Sg rfl hk0 (o_leq rfl rfl) (Sv (oT hk0 rfl rfl) (Zm rfl (Sx rfl (dF hk1) (Sx rfl (dF hk1) (Sv (oF (dF hk1) rfl rfl) (Za rfl (Ln (e_K (hK3 _ _ _ _ ?_))))))))))))))
   exact cR (ret1 rfl rfl ⟨congrArg Value.bool (by rw [keyB_eq]; simp only [hk0, dF hk1, Bool.true_and, Bool.and_true, Bool.false_and, Bool.and_false, Bool.true_or, Bool.or_true, Bool.false_or, Bool.or_false, Bool.not_true, Bool.not_false]), E⟩)
 ·refine Cr (Zm rfl (Zm rfl (Sx rfl (bF hk0) (Sx rfl (bF hk0) (Sx rfl (bF hk0) (Sv (oF (bF hk0) rfl rfl) (Zm rfl (Sx rfl rfl (Sx rfl rfl (Sv (oF rfl rfl rfl) (Za rfl (Ln (e_K (hK3 _ _ _ _ ?_))))))))))))))
  exact cR (ret1 rfl rfl ⟨congrArg Value.bool (by rw [keyB_eq]; simp only [bF hk0, Bool.true_and, Bool.and_true, Bool.false_and, Bool.and_false, Bool.true_or, Bool.or_true, Bool.false_or, Bool.or_false, Bool.not_true, Bool.not_false]), E⟩)
end Go.Proofs.YtkhbnhdlelmbnaaGreatDoor.V

set_option linter.unusedVariables false
set_option linter.unusedSimpArgs false
namespace Go.Proofs.YtkhbnhdlelmbnaaGreatDoor.V
open Go
section
variable {P : Program} {l : List (Nat × Value)} {w : World} {ty : TypeId} {pos : String} {af : Array Edge} {dd : Option Nat} {gg : Option (Nat × Bool)} {x y z hi : Operand} {t : TypeId}
theorem o_ssmid {u : List UInt8} {m n : Nat} (ht : P.underlying t = some .string) (hx : evO l x = some (S u)) (hl : evO l y = some (.int .i64 (m : Int))) (hh : evO l hi = some (.int .i64 (n : Int))) (hb : m ≤ n ∧ n ≤ u.length) : Runs P l ⟨dd, .slice t x (some y) (some hi) none, ty, pos, af, gg⟩ w (S ((u.take n).drop m)) w :=
  (o_ssl (pl := some (.i64, (m : Int))) (ph := some (.i64, (n : Int))) ht hx (by simp [evS, hl]) (by simp [evS, hh]) (by simp only [loV, hiV]; omega)).to (by
    simp only [loV, hiV, Int.toNat_natCast]
    rw [List.drop_take])
end
theorem server_i1 (s : Str) : decide (colonAt s = s.length) = decide ((colonAt s : Int) = (s.length : Int)) := by rw [decide_eq_decide]; omega
theorem server_i2 (s : Str) : decide (s.length - colonAt s ≤ 6) = decide (((s.length - colonAt s : Nat) : Int) ≤ 6) := by rw [decide_eq_decide]; omega
theorem named_form (sign : UInt8) (q : Nat → Bool) (s : Str) : namedB sign q s = (decide ((s.length : Int) ≤ 255) && decide ((colonAt s : Int) < (s.length : Int)) && decide (s.head? = some sign) && allB q ((s.take (colonAt s)).drop 1) && serverB (s.drop (colonAt s + 1))) := by
  rw [namedB, len_e3, show decide (colonAt s < s.length) = decide ((colonAt s : Int) < (s.length : Int)) by rw [decide_eq_decide]; omega]
theorem head_dec {s : Str} {b0 sign : UInt8} (h : s[0]? = some b0) : decide (s.head? = some sign) = decide ((b0.toNat : Int) = (sign.toNat : Int)) := by
  rw [List.head?_eq_getElem?, h, decide_eq_decide]
  constructor
  · intro e; injection e with e; rw [e]
  · intro e; rw [u8_eq e]
theorem head_no {s : Str} {sign : UInt8} (h58 : sign ≠ 58) (h : ¬ (colonAt s : Int) > 0) : decide (s.head? = some sign) = false := by
  refine decide_eq_false fun e => ?_
  have := named_pos h58 e
  omega
end Go.Proofs.YtkhbnhdlelmbnaaGreatDoor.V
