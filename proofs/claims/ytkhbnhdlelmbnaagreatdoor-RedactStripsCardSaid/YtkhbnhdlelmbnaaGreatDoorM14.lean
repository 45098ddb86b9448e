/-
  A part of the proof: names with a sign; keys; kinds of bytes, as the document tells them. No condition of its own.
-/
import Derived.Test.YtkhbnhdlelmbnaaGreatDoorM10
import Derived.Test.YtkhbnhdlelmbnaaGreatDoorM13
set_option linter.unusedVariables false
set_option linter.unusedSimpArgs false
set_option maxRecDepth 10000
namespace Go.Proofs.YtkhbnhdlelmbnaaGreatDoor.V
open Go Go.Proofs
theorem ent147 : Ent Tryz.prog 147 := Ent.of Tryz.func147 (by kernel_rfl) (by kernel_rfl)
theorem ent146 : Ent Tryz.prog 146 := Ent.of Tryz.func146 (by kernel_rfl) (by kernel_rfl)
theorem ent135 : Ent Tryz.prog 135 := Ent.of Tryz.func135 (by kernel_rfl) (by kernel_rfl)
theorem ent118 : Ent Tryz.prog 118 := Ent.of Tryz.func118 (by kernel_rfl) (by kernel_rfl)
theorem ent120 : Ent Tryz.prog 120 := Ent.of Tryz.func120 (by kernel_rfl) (by kernel_rfl)
theorem ent122 : Ent Tryz.prog 122 := Ent.of Tryz.func122 (by kernel_rfl) (by kernel_rfl)
theorem ent119 : Ent Tryz.prog 119 := Ent.of Tryz.func119 (by kernel_rfl) (by kernel_rfl)
theorem c_small (w : World) (c : Nat) : Calls Tryz.prog 118 [.int .i32 (c : Int)].toArray w (Ret fun u w' => u = .bool (kS c) ∧ Mod [] w w') := by
 refine enter Tryz.func118 rfl rfl rfl (l := [(0, _)]) ⟨rfl, trivial⟩ ?_
 have E := Mod.refl [] w
 refine Cq fun K1 hK1 => Cr (Za rfl (Ln (e_K (hK1 _ _ _ _ (Cq fun K2 hK2 => ?_)))))
 by_cases hs1_0 : (c : Int) ≥ 97
 ·by_cases hs1_1 : (c : Int) ≤ 122
  ·exact Cr (Zm rfl (Sv (o_geq rfl rfl) (Zm rfl (Sg rfl (dT hs1_0) (oM rfl) (Sg rfl (dT hs1_0) (o_leq rfl rfl) (Sv (oT (dT hs1_0) rfl rfl) (Za rfl (Ln (e_K (hK2 _ _ _ _ (cR (ret1 rfl rfl ⟨congrArg Value.bool (by rw [Bool.eq_iff_iff]; simp [kS]; omega), E⟩))))))))))))
  ·exact Cr (Zm rfl (Sv (o_geq rfl rfl) (Zm rfl (Sg rfl (dT hs1_0) (oM rfl) (Sg rfl (dT hs1_0) (o_leq rfl rfl) (Sv (oT (dT hs1_0) rfl rfl) (Za rfl (Ln (e_K (hK2 _ _ _ _ (cR (ret1 rfl rfl ⟨congrArg Value.bool (by rw [Bool.eq_iff_iff]; simp [kS]; omega), E⟩))))))))))))
 ·exact Cr (Zm rfl (Sv (o_geq rfl rfl) (Zm rfl (Sx rfl (dF hs1_0) (Sx rfl (dF hs1_0) (Sv (oF (dF hs1_0) rfl rfl) (Za rfl (Ln (e_K (hK2 _ _ _ _ (cR (ret1 rfl rfl ⟨congrArg Value.bool (by rw [Bool.eq_iff_iff]; simp [kS]; omega), E⟩))))))))))))

theorem c_kgreat (w : World) (c : Nat) : Calls Tryz.prog 119 [.int .i32 (c : Int)].toArray w (Ret fun u w' => u = .bool (kG c) ∧ Mod [] w w') := by
 refine enter Tryz.func119 rfl rfl rfl (l := [(0, _)]) ⟨rfl, trivial⟩ ?_
 have E := Mod.refl [] w
 refine Cq fun K1 hK1 => Cr (Za rfl (Ln (e_K (hK1 _ _ _ _ (Cq fun K2 hK2 => ?_)))))
 by_cases hs1_0 : (c : Int) ≥ 65
 ·by_cases hs1_1 : (c : Int) ≤ 90
  ·exact Cr (Zm rfl (Sv (o_geq rfl rfl) (Zm rfl (Sg rfl (dT hs1_0) (oM rfl) (Sg rfl (dT hs1_0) (o_leq rfl rfl) (Sv (oT (dT hs1_0) rfl rfl) (Za rfl (Ln (e_K (hK2 _ _ _ _ (cR (ret1 rfl rfl ⟨congrArg Value.bool (by rw [Bool.eq_iff_iff]; simp [kG]; omega), E⟩))))))))))))
  ·exact Cr (Zm rfl (Sv (o_geq rfl rfl) (Zm rfl (Sg rfl (dT hs1_0) (oM rfl) (Sg rfl (dT hs1_0) (o_leq rfl rfl) (Sv (oT (dT hs1_0) rfl rfl) (Za rfl (Ln (e_K (hK2 _ _ _ _ (cR (ret1 rfl rfl ⟨congrArg Value.bool (by rw [Bool.eq_iff_iff]; simp [kG]; omega), E⟩))))))))))))
 ·exact Cr (Zm rfl (Sv (o_geq rfl rfl) (Zm rfl (Sx rfl (dF hs1_0) (Sx rfl (dF hs1_0) (Sv (oF (dF hs1_0) rfl rfl) (Za rfl (Ln (e_K (hK2 _ _ _ _ (cR (ret1 rfl rfl ⟨congrArg Value.bool (by rw [Bool.eq_iff_iff]; simp [kG]; omega), E⟩))))))))))))

theorem c_digit (w : World) (c : Nat) : Calls Tryz.prog 120 [.int .i32 (c : Int)].toArray w (Ret fun u w' => u = .bool (kD c) ∧ Mod [] w w') := by
 refine enter Tryz.func120 rfl rfl rfl (l := [(0, _)]) ⟨rfl, trivial⟩ ?_
 have E := Mod.refl [] w
 refine Cq fun K1 hK1 => Cr (Za rfl (Ln (e_K (hK1 _ _ _ _ (Cq fun K2 hK2 => ?_)))))
 by_cases hs1_0 : (c : Int) ≥ 48
 ·by_cases hs1_1 : (c : Int) ≤ 57
  ·exact Cr (Zm rfl (Sv (o_geq rfl rfl) (Zm rfl (Sg rfl (dT hs1_0) (oM rfl) (Sg rfl (dT hs1_0) (o_leq rfl rfl) (Sv (oT (dT hs1_0) rfl rfl) (Za rfl (Ln (e_K (hK2 _ _ _ _ (cR (ret1 rfl rfl ⟨congrArg Value.bool (by rw [Bool.eq_iff_iff]; simp [kD]; omega), E⟩))))))))))))
  ·exact Cr (Zm rfl (Sv (o_geq rfl rfl) (Zm rfl (Sg rfl (dT hs1_0) (oM rfl) (Sg rfl (dT hs1_0) (o_leq rfl rfl) (Sv (oT (dT hs1_0) rfl rfl) (Za rfl (Ln (e_K (hK2 _ _ _ _ (cR (ret1 rfl rfl ⟨congrArg Value.bool (by rw [Bool.eq_iff_iff]; simp [kD]; omega), E⟩))))))))))))
 ·exact Cr (Zm rfl (Sv (o_geq rfl rfl) (Zm rfl (Sx rfl (dF hs1_0) (Sx rfl (dF hs1_0) (Sv (oF (dF hs1_0) rfl rfl) (Za rfl (Ln (e_K (hK2 _ _ _ _ (cR (ret1 rfl rfl ⟨congrArg Value.bool (by rw [Bool.eq_iff_iff]; simp [kD]; omega), E⟩))))))))))))

theorem c_validr (w : World) (c : Nat) (h1 : c ≤ 1114111) (h2 : ¬ (55296 ≤ c ∧ c ≤ 57343)) : Calls Tryz.prog 147 [.int .i32 (c : Int)].toArray w (Ret fun u w' => u = .bool true ∧ Mod [] w w') := by
 refine enter Tryz.func147 rfl rfl rfl (l := [(0, _)]) ⟨rfl, trivial⟩ ?_
 have E := Mod.refl [] w
 have hc0 : (0 : Int) ≤ (c : Int) := by omega
 refine Cq fun K1 hK1 => Cr (Za rfl (Ln (e_K (hK1 _ _ _ _ (Cq fun K2 hK2 => cB (Cq fun K3 hK3 => ?_))))))
 by_cases hs1_1 : (c : Int) < 55296
 ·refine Cr (Zm rfl (Sv (o_leq rfl rfl) (Zm rfl (Sg rfl (dT hc0) (oM rfl) (Sg rfl (dT hc0) (o_lss rfl rfl) (Sv (oT (dT hc0) rfl rfl) (Za rfl (Ln (e_K (hK3 _ _ _ _ ?_))))))))))
  refine c_if rfl (fun h3 => ?_) (fun h3 => ?_)
  ·exact Cq fun K4 hK4 => Cr (Za rfl (Ln (e_K (hK4 _ _ _ _ (cR (eI (by simp) (eT (by simp) (ret1 rfl rfl ⟨rfl, E⟩))))))))
  ·have hgt : (57343 : Int) < (c : Int) := by omega
   have hle : (c : Int) ≤ 1114111 := by omega
   refine Cq fun K5 hK5 => Cr (Zm rfl (Sv (o_lss rfl rfl) (Zm rfl (Sg rfl (dT hgt) (oM rfl) (Sg rfl (dT hgt) (o_leq rfl rfl) (Sv (oT (dT hgt) rfl rfl) (Za rfl (Ln (e_K (hK5 _ _ _ _ ?_))))))))))
   refine c_if rfl (fun h10 => ?_) (fun h10 => absurd hle h10)
   exact Cq fun K6 hK6 => Cr (Za rfl (Ln (e_K (hK6 _ _ _ _ (cR (eI (by simp) (eT (by simp) (ret1 rfl rfl ⟨rfl, E⟩))))))))
 ·refine Cr (Zm rfl (Sv (o_leq rfl rfl) (Zm rfl (Sg rfl (dT hc0) (oM rfl) (Sg rfl (dT hc0) (o_lss rfl rfl) (Sv (oT (dT hc0) rfl rfl) (Za rfl (Ln (e_K (hK3 _ _ _ _ ?_))))))))))
  refine c_if rfl (fun h3 => ?_) (fun h3 => ?_)
  ·exact Cq fun K7 hK7 => Cr (Za rfl (Ln (e_K (hK7 _ _ _ _ (cR (eI (by simp) (eT (by simp) (ret1 rfl rfl ⟨rfl, E⟩))))))))
  ·have hgt : (57343 : Int) < (c : Int) := by omega
   have hle : (c : Int) ≤ 1114111 := by omega
   refine Cq fun K8 hK8 => Cr (Zm rfl (Sv (o_lss rfl rfl) (Zm rfl (Sg rfl (dT hgt) (oM rfl) (Sg rfl (dT hgt) (o_leq rfl rfl) (Sv (oT (dT hgt) rfl rfl) (Za rfl (Ln (e_K (hK8 _ _ _ _ ?_))))))))))
   refine c_if rfl (fun h10 => ?_) (fun h10 => absurd hle h10)
   exact Cq fun K9 hK9 => Cr (Za rfl (Ln (e_K (hK9 _ _ _ _ (cR (eI (by simp) (eT (by simp) (ret1 rfl rfl ⟨rfl, E⟩))))))))

theorem c_irune_hi (w : World) (s : Str) (c : Nat) (hs : ∀ x ∈ s, x.toNat < 128) (hl : 4 ≤ s.length) (hl2 : s.length ≤ 1000) (h1 : c ≤ 1114111) (h2 : ¬ (55296 ≤ c ∧ c ≤ 57343)) (h : 128 ≤ c) : Calls Tryz.prog 135 [S s, .int .i32 (c : Int)].toArray w (Ret fun u w' => u = .int .i64 (-1) ∧ Mod [] w w') := by
 refine enter Tryz.func135 rfl rfl rfl (l := [(0, _), (1, _)]) ⟨rfl, rfl, trivial⟩ ?_
 have E := Mod.refl [] w
 have hc0 : (0 : Int) ≤ (c : Int) := by omega
 have hc1 : ¬ (c : Int) < 128 := by omega
 obtain ⟨rs, hrs, hr2, hr4, bL, hbL, hbL2⟩ := enc_last h1 h2 h
 obtain ⟨b1, hb1⟩ : ∃ b1, s[rs.length - 1]? = some b1 := ⟨_, List.getElem?_eq_getElem (by omega)⟩
 have hb1s := hs b1 (List.mem_of_getElem? hb1)
 have hib : Lib.indexByte (s.drop (rs.length - 1 + 1)) bL = -1 := indexByte_none (fun x hx => hs x (List.mem_of_mem_drop hx)) hbL2
 refine Cq fun K1 hK1 => Cr (Za rfl (Ln (e_K (hK1 _ _ _ _ (cB (Cq fun K2 hK2 => Cr (Zm rfl (Sv (o_leq rfl rfl) (Zm rfl (Sg rfl (dT hc0) (oM rfl) (Sg rfl (dT hc0) (o_lss rfl rfl) (Sv (oT (dT hc0) rfl rfl) ?_))))))))))))
 refine Za rfl (Ln (e_K (hK2 _ _ _ _ (c_if rfl (fun h160 => absurd h160 hc1) (fun h160 => Cq fun K3 hK3 => Cr (Zm rfl (Sv (oE rfl rfl) (Za rfl (Ln (e_K (hK3 _ _ _ _ ?_)))))))))))
 refine c_if rfl (fun h171 => ?_) (fun h171 => ?_)
 ·refine Cq fun K4 hK4 => Cq fun K5 hK5 => Cr (Zm rfl (s_range Tryz.underlying9 rfl rfl fun gi w1 IT hgi EI => ?_))
  have Lgi : w.heap.size ≤ gi := by have := E.size; omega
  replace E := E.then EI
  refine Ln (e_K (hK5 _ _ _ _ (cB (c_loop (σ := Nat) (fun p => [(0, S s), (1, .int .i32 (c : Int)), (175, .pointer (some ⟨gi, 0, none⟩))]) (fun p w1 => p ≤ s.length ∧ It w1 gi s p ∧ Mod [] w w1) (fun p => s.length - p) (0) ⟨rfl, rfl, rfl, trivial⟩ (⟨by omega, IT, E⟩) ?_))))
  rintro p w2 ⟨hp, IT, E⟩
  refine Cq fun K6 hK6 => ?_
  by_cases hplt : p < s.length
  ·obtain ⟨b, hb⟩ : ∃ b, s[p]? = some b := ⟨_, List.getElem?_eq_getElem hplt⟩
   have hbs := hs b (List.mem_of_getElem? hb)
   refine Cr (s_next rfl IT hplt (dec_lt hb hbs) rfl fun w3 IT2 EN hzN => ?_)
   replace E := E.trans' EN (fun x hx => .inr (by simp at hx; subst hx; exact Lgi))
   clear IT
   have IT := IT2
   refine Sv (o_ext rfl rfl) (Ln (e_K (hK6 _ _ _ _ (Cq fun K7 hK7 => ?_))))
   refine c_cond rfl (fun h177 => ?_) (fun h177 => ?_)
   ·skip
    refine cK (e_K (hK7 _ _ _ _ (cB (Cq fun K8 hK8 => Cr (Sv (o_ext rfl rfl) (Sv (o_ext rfl rfl) (Za rfl (Za rfl (Ln (e_K (hK8 _ _ _ _ (Cq fun K9 hK9 => Cr (Zm rfl ?_)))))))))))))
    refine Sv (oE rfl rfl) (Ln (e_K (hK9 _ _ _ _ ?_)))
    refine c_if rfl (fun h181 => ?_) (fun h181 => ?_)
    ·exact absurd h181 (by omega)
    ·exact cK (eI (by simp) (eR (σ := Nat) (s := p) (p + 1) ⟨rfl, rfl, rfl, trivial⟩ ⟨by omega, IT, E⟩ (by omega)))
   ·cases h177
  ·have hs_end := hplt
   refine Cr (s_next_end rfl IT hs_end rfl (Sv (o_ext rfl rfl) (Ln (e_K (hK6 _ _ _ _ (Cq fun K10 hK10 => ?_))))))
   refine c_cond rfl (fun h177 => ?_) (fun h177 => ?_)
   ·cases h177
   ·skip
    exact c_exit (eT (by simp) (eT (by simp) (e_hit (e_K (hK4 _ _ _ _ (Cq fun K11 hK11 => Cr (Za rfl (Ln (e_K (hK11 _ _ _ _ (cR (eI (by simp) (ret1 rfl rfl ⟨rfl, E⟩)))))))))))))
 ·refine Cq fun K12 hK12 => Cr (Zm rfl (sc (oC ent147 rfl) (c_validr _ c h1 h2) rfl fun v_ w4 h_ => ?_))
  obtain ⟨rfl, E_⟩ := h_
  replace E := E.then E_
  refine Sv (o_not rfl) (Za rfl (Ln (e_K (hK12 _ _ _ _ ?_))))
  refine c_cond rfl (fun h183 => ?_) (fun h183 => ?_)
  ·cases h183
  ·refine c_scope (Cq fun K13 hK13 => Cr (Zm rfl (Sv ((o_r2s Tryz.underlying21 Tryz.underlying9 rfl).to (v' := S rs) (by rw [hrs])) (Za rfl (Ln (e_K (hK13 _ _ _ _ (Cq fun K14 hK14 => Cr (Zm rfl (Sv (o_slen Tryz.underlying9 rfl) (Sv (o_subE (r := ((rs.length - 1 : Nat) : Int)) rfl rfl (by rw [wrap64_in _ (by omega)]; omega)) (Za rfl ?_))))))))))))
   refine Ln (e_K (hK14 _ _ _ _ (Cq fun K15 hK15 => Cr (Zm rfl (Za rfl (Ln (e_K (hK15 _ _ _ _ (Cq fun K16 hK16 => Cr (Za rfl (Ln (e_K (hK16 _ _ _ _ (Cq fun K17 hK17 => ?_))))))))))))))
   refine cB (c_loop (σ := Unit) (fun _ => [(0, S s), (7, S rs), (8, .int .i64 ((rs.length - 1 : Nat) : Int)), (9, .int .i64 ((rs.length - 1 : Nat) : Int))]) (fun _ w1 => Mod [] w w1) (fun _ => 0) (()) ⟨rfl, rfl, rfl, rfl, trivial⟩ (E) ?_)
   rintro _ w5 E
   refine Cq fun K18 hK18 => Cq fun K19 hK19 => Cr (Zm rfl (Zm rfl (Sv (o_slen Tryz.underlying9 rfl) (Sv (o_lss rfl rfl) (Ln (e_K (hK19 _ _ _ _ ?_)))))))
   refine c_if rfl (fun h26 => ?_) (fun h26 => ?_)
   ·refine cK (e_K (hK18 _ _ _ _ (cB (c_scope (Cq fun K20 hK20 => Cq fun K21 hK21 => c_draw wide (by kernel_rfl) (tv (fun w_ E_ => (oM rfl)) rfl rfl (tv (fun w_ E_ => (oM rfl)) rfl rfl (tv (fun w_ E_ => (o_sidx Tryz.underlying9 rfl rfl (by omega) (by rw [Int.toNat_natCast]; exact hb1))) rfl rfl (tv (fun w_ E_ => (oM rfl)) rfl rfl (tv (fun w_ E_ => (oM rfl)) rfl rfl (tv (fun w_ E_ => (o_sidx Tryz.underlying9 rfl rfl (by omega) (by rw [Int.toNat_natCast]; exact hbL))) rfl rfl (tv (fun w_ E_ => (o_neq rfl rfl)) rfl rfl ?_))))))))))))
    refine tw_nil rfl fun w6 E_ => ?_
    replace E := E.then E_
    refine e_K (hK21 _ _ _ _ ?_)
    refine c_if rfl (fun h33 => ?_) (fun h33 => ?_)
    ·refine Cq fun K22 hK22 => c_draw wide (by kernel_rfl) (tv (fun w_ E_ => (oM rfl)) rfl rfl (tv (fun w_ E_ => (oM rfl)) rfl rfl (tv (fun w_ E_ => (o_addE (r := ((rs.length - 1 + 1 : Nat) : Int)) rfl rfl (by rw [wrap64_in _ (by omega)]; omega))) rfl rfl (tv (fun w_ E_ => (o_ssfrom Tryz.underlying9 rfl rfl (by omega))) rfl rfl (tv (fun w_ E_ => (oM rfl)) rfl rfl (tv (fun w_ E_ => (oM rfl)) rfl rfl (tv (fun w_ E_ => (o_sidx Tryz.underlying9 rfl rfl (by omega) (by rw [Int.toNat_natCast]; exact hbL))) rfl rfl (tc (fun w_ E_ => oC ent146 rfl) (fun w_ E_ => c_ib _ (s.drop (rs.length - 1 + 1)) bL) rfl rfl (tv (fun w_ E_ => (o_as rfl)) rfl rfl (tw_nil rfl fun w7 E_ => ?_))))))))))
     replace E := E.then E_
     refine e_K (hK22 _ _ _ _ (Cq fun K23 hK23 => Cq fun K24 hK24 => Cr (Zm rfl (Sv (o_lss rfl rfl) (Ln (e_K (hK24 _ _ _ _ ?_)))))))
     refine c_if rfl (fun h43 => ?_) (fun h43 => ?_)
     ·refine Cq fun K25 hK25 => Cr (Za rfl (Ln (e_K (hK25 _ _ _ _ (cR (eT (by simp) (eT (by simp) (e_scope (by simp) (eI (by simp) (eT (by simp) (eI (by simp) (eT (by simp) (e_scope (by simp) ?_)))))))))))))
      exact eI (by simp) (ret1 rfl rfl ⟨rfl, E⟩)
     ·exact absurd (by rw [hib]; decide) h43
    ·exact absurd (by omega) h33
   ·exact absurd (by omega) h26

theorem c_crune_hi (w : World) (s : Str) (c : Nat) (hs : ∀ x ∈ s, x.toNat < 128) (hl : 4 ≤ s.length) (hl2 : s.length ≤ 1000) (h1 : c ≤ 1114111) (h2 : ¬ (55296 ≤ c ∧ c ≤ 57343)) (h : 128 ≤ c) : Calls Tryz.prog 122 [S s, .int .i32 (c : Int)].toArray w (Ret fun u w' => u = .bool false ∧ Mod [] w w') := by
 refine enter Tryz.func122 rfl rfl rfl (l := [(0, _), (1, _)]) ⟨rfl, rfl, trivial⟩ ?_
 have E := Mod.refl [] w
 refine Cq fun K1 hK1 => Cr (Za rfl (Ln (e_K (hK1 _ _ _ _ (Cq fun K2 hK2 => Cr (Zm rfl (Zm rfl (sc (oC ent135 rfl) (c_irune_hi _ s c hs hl hl2 h1 h2 h) rfl fun v_ w1 h_ => ?_))))))))
 obtain ⟨rfl, E_⟩ := h_
 replace E := E.then E_
 exact Sv (o_geq rfl rfl) (Za rfl (Ln (e_K (hK2 _ _ _ _ (cR (ret1 rfl rfl ⟨rfl, E⟩))))))

theorem c_crune (w : World) (c : Nat) (h1 : c ≤ 1114111) (h2 : ¬ (55296 ≤ c ∧ c ≤ 57343)) : Calls Tryz.prog 122 [S userS, .int .i32 (c : Int)].toArray w (Ret fun u w' => u = .bool (userS.any fun b => decide (b.toNat = c)) ∧ Mod [] w w') := by
 rcases Nat.lt_or_ge c 128 with h | h
 ·exact c_crune_lo w userS c h
 ·refine (c_crune_hi w userS c (by decide) (by decide) (by decide) h1 h2 h).mono fun e w' he => ?_
  cases e with
  | returned v =>
   obtain ⟨rfl, k⟩ := he
   refine ⟨?_, k⟩
   congr 1
   symm
   rw [List.any_eq_false]
   intro b hb
   have : b.toNat < 128 := (by decide : ∀ b ∈ userS, b.toNat < 128) b hb
   simp
   omega
  | panicked c => exact he.elim
  | outgrown => exact he.elim

theorem c_kServer (w : World) (c : Nat) (h1 : c ≤ 1114111) (h2 : ¬ (55296 ≤ c ∧ c ≤ 57343)) : Calls Tryz.prog 134 [.int .i32 (c : Int)].toArray w (Ret fun u w' => u = .bool (qServer c) ∧ Mod [] w w') := by
 refine enter Tryz.func134 rfl rfl rfl (l := [(0, _)]) ⟨rfl, trivial⟩ ?_
 have E := Mod.refl [] w
 refine Cq fun K1 hK1 => Cr (Za rfl (Ln (e_K (hK1 _ _ _ _ (Cq fun K2 hK2 => ?_)))))
 rcases hk0 : kS c with _ | _
 ·rcases hk1 : kD c with _ | _
  ·by_cases hk2 : (c : Int) = 46
   ·refine Cr (Zm rfl (sc (oC ent118 rfl) (c_small _ c) rfl fun v_ w1 h_ => ?_))
    obtain ⟨rfl, E_⟩ := h_
    replace E := E.then E_
    refine Zm rfl (Sg rfl hk0 (oM rfl) (sgc rfl hk0 (oC ent120 rfl) (c_digit _ c) rfl fun v_ w2 h_ => ?_))
    obtain ⟨rfl, E_⟩ := h_
    replace E := E.then E_
    exact Sv (oF hk0 rfl rfl) (Zm rfl (Sg rfl hk1 (oM rfl) (Sg rfl hk1 (oE rfl rfl) (Sv (oF hk1 rfl rfl) (Zm rfl (Sx rfl (dT hk2) (Sx rfl (dT hk2) (Sv (oT (dT hk2) rfl rfl) (Za rfl (Ln (e_K (hK2 _ _ _ _ (cR (ret1 rfl rfl ⟨by simp_all [qServer], E⟩))))))))))))))
   ·by_cases hk3 : (c : Int) = 45
    ·refine Cr (Zm rfl (sc (oC ent118 rfl) (c_small _ c) rfl fun v_ w3 h_ => ?_))
     obtain ⟨rfl, E_⟩ := h_
     replace E := E.then E_
     refine Zm rfl (Sg rfl hk0 (oM rfl) (sgc rfl hk0 (oC ent120 rfl) (c_digit _ c) rfl fun v_ w4 h_ => ?_))
     obtain ⟨rfl, E_⟩ := h_
     replace E := E.then E_
     exact Sv (oF hk0 rfl rfl) (Zm rfl (Sg rfl hk1 (oM rfl) (Sg rfl hk1 (oE rfl rfl) (Sv (oF hk1 rfl rfl) (Zm rfl (Sg rfl (dF hk2) (oM rfl) (Sg rfl (dF hk2) (oE rfl rfl) (Sv (oF (dF hk2) rfl rfl) (Za rfl (Ln (e_K (hK2 _ _ _ _ (cR (ret1 rfl rfl ⟨by simp_all [qServer], E⟩))))))))))))))
    ·refine Cr (Zm rfl (sc (oC ent118 rfl) (c_small _ c) rfl fun v_ w5 h_ => ?_))
     obtain ⟨rfl, E_⟩ := h_
     replace E := E.then E_
     refine Zm rfl (Sg rfl hk0 (oM rfl) (sgc rfl hk0 (oC ent120 rfl) (c_digit _ c) rfl fun v_ w6 h_ => ?_))
     obtain ⟨rfl, E_⟩ := h_
     replace E := E.then E_
     exact Sv (oF hk0 rfl rfl) (Zm rfl (Sg rfl hk1 (oM rfl) (Sg rfl hk1 (oE rfl rfl) (Sv (oF hk1 rfl rfl) (Zm rfl (Sg rfl (dF hk2) (oM rfl) (Sg rfl (dF hk2) (oE rfl rfl) (Sv (oF (dF hk2) rfl rfl) (Za rfl (Ln (e_K (hK2 _ _ _ _ (cR (ret1 rfl rfl ⟨by simp_all [qServer], E⟩))))))))))))))
  ·refine Cr (Zm rfl (sc (oC ent118 rfl) (c_small _ c) rfl fun v_ w7 h_ => ?_))
   obtain ⟨rfl, E_⟩ := h_
   replace E := E.then E_
   refine Zm rfl (Sg rfl hk0 (oM rfl) (sgc rfl hk0 (oC ent120 rfl) (c_digit _ c) rfl fun v_ w8 h_ => ?_))
   obtain ⟨rfl, E_⟩ := h_
   replace E := E.then E_
   exact Sv (oF hk0 rfl rfl) (Zm rfl (Sx rfl hk1 (Sx rfl hk1 (Sv (oT hk1 rfl rfl) (Zm rfl (Sx rfl rfl (Sx rfl rfl (Sv (oT rfl rfl rfl) (Za rfl (Ln (e_K (hK2 _ _ _ _ (cR (ret1 rfl rfl ⟨by simp_all [qServer], E⟩))))))))))))))
 ·refine Cr (Zm rfl (sc (oC ent118 rfl) (c_small _ c) rfl fun v_ w9 h_ => ?_))
  obtain ⟨rfl, E_⟩ := h_
  replace E := E.then E_
  refine Zm rfl (Sx rfl hk0 (Sx rfl hk0 (Sv (oT hk0 rfl rfl) (Zm rfl (Sx rfl rfl (Sx rfl rfl (Sv (oT rfl rfl rfl) (Zm rfl (Sx rfl rfl (Sx rfl rfl (Sv (oT rfl rfl rfl) (Za rfl (Ln ?_)))))))))))))
  exact e_K (hK2 _ _ _ _ (cR (ret1 rfl rfl ⟨by simp_all [qServer], E⟩)))

theorem c_kUser (w : World) (c : Nat) (h1 : c ≤ 1114111) (h2 : ¬ (55296 ≤ c ∧ c ≤ 57343)) : Calls Tryz.prog 121 [.int .i32 (c : Int)].toArray w (Ret fun u w' => u = .bool (qUser c) ∧ Mod [] w w') := by
 refine enter Tryz.func121 rfl rfl rfl (l := [(0, _)]) ⟨rfl, trivial⟩ ?_
 have E := Mod.refl [] w
 refine Cq fun K1 hK1 => Cr (Za rfl (Ln (e_K (hK1 _ _ _ _ (Cq fun K2 hK2 => ?_)))))
 rcases hk0 : kS c with _ | _
 ·rcases hk1 : kD c with _ | _
  ·rcases hk2 : userS.any fun b => decide (b.toNat = c) with _ | _
   ·refine Cr (Zm rfl (sc (oC ent118 rfl) (c_small _ c) rfl fun v_ w1 h_ => ?_))
    obtain ⟨rfl, E_⟩ := h_
    replace E := E.then E_
    refine Zm rfl (Sg rfl hk0 (oM rfl) (sgc rfl hk0 (oC ent120 rfl) (c_digit _ c) rfl fun v_ w2 h_ => ?_))
    obtain ⟨rfl, E_⟩ := h_
    replace E := E.then E_
    refine Sv (oF hk0 rfl rfl) (Zm rfl (Sg rfl hk1 (oM rfl) (sgc rfl hk1 (oC ent122 rfl) (c_crune _ c h1 h2) rfl fun v_ w3 h_ => ?_)))
    obtain ⟨rfl, E_⟩ := h_
    replace E := E.then E_
    exact Sv (oF hk1 rfl rfl) (Za rfl (Ln (e_K (hK2 _ _ _ _ (cR (ret1 rfl rfl ⟨by simp_all [qUser], E⟩))))))
   ·refine Cr (Zm rfl (sc (oC ent118 rfl) (c_small _ c) rfl fun v_ w4 h_ => ?_))
    obtain ⟨rfl, E_⟩ := h_
    replace E := E.then E_
    refine Zm rfl (Sg rfl hk0 (oM rfl) (sgc rfl hk0 (oC ent120 rfl) (c_digit _ c) rfl fun v_ w5 h_ => ?_))
    obtain ⟨rfl, E_⟩ := h_
    replace E := E.then E_
    refine Sv (oF hk0 rfl rfl) (Zm rfl (Sg rfl hk1 (oM rfl) (sgc rfl hk1 (oC ent122 rfl) (c_crune _ c h1 h2) rfl fun v_ w6 h_ => ?_)))
    obtain ⟨rfl, E_⟩ := h_
    replace E := E.then E_
    exact Sv (oF hk1 rfl rfl) (Za rfl (Ln (e_K (hK2 _ _ _ _ (cR (ret1 rfl rfl ⟨by simp_all [qUser], E⟩))))))
  ·refine Cr (Zm rfl (sc (oC ent118 rfl) (c_small _ c) rfl fun v_ w7 h_ => ?_))
   obtain ⟨rfl, E_⟩ := h_
   replace E := E.then E_
   refine Zm rfl (Sg rfl hk0 (oM rfl) (sgc rfl hk0 (oC ent120 rfl) (c_digit _ c) rfl fun v_ w8 h_ => ?_))
   obtain ⟨rfl, E_⟩ := h_
   replace E := E.then E_
   exact Sv (oF hk0 rfl rfl) (Zm rfl (Sx rfl hk1 (Sx rfl hk1 (Sv (oT hk1 rfl rfl) (Za rfl (Ln (e_K (hK2 _ _ _ _ (cR (ret1 rfl rfl ⟨by simp_all [qUser], E⟩))))))))))
 ·refine Cr (Zm rfl (sc (oC ent118 rfl) (c_small _ c) rfl fun v_ w9 h_ => ?_))
  obtain ⟨rfl, E_⟩ := h_
  replace E := E.then E_
  exact Zm rfl (Sx rfl hk0 (Sx rfl hk0 (Sv (oT hk0 rfl rfl) (Zm rfl (Sx rfl rfl (Sx rfl rfl (Sv (oT rfl rfl rfl) (Za rfl (Ln (e_K (hK2 _ _ _ _ (cR (ret1 rfl rfl ⟨by simp_all [qUser], E⟩)))))))))))))

theorem c_kRoom (w : World) (c : Nat) (h1 : c ≤ 1114111) (h2 : ¬ (55296 ≤ c ∧ c ≤ 57343)) : Calls Tryz.prog 117 [.int .i32 (c : Int)].toArray w (Ret fun u w' => u = .bool (qRoom c) ∧ Mod [] w w') := by
 refine enter Tryz.func117 rfl rfl rfl (l := [(0, _)]) ⟨rfl, trivial⟩ ?_
 have E := Mod.refl [] w
 refine Cq fun K1 hK1 => Cr (Za rfl (Ln (e_K (hK1 _ _ _ _ (Cq fun K2 hK2 => ?_)))))
 rcases hk0 : kS c with _ | _
 ·rcases hk1 : kG c with _ | _
  ·rcases hk2 : kD c with _ | _
   ·by_cases hk3 : (c : Int) = 95
    ·refine Cr (Zm rfl (sc (oC ent118 rfl) (c_small _ c) rfl fun v_ w1 h_ => ?_))
     obtain ⟨rfl, E_⟩ := h_
     replace E := E.then E_
     refine Zm rfl (Sg rfl hk0 (oM rfl) (sgc rfl hk0 (oC ent119 rfl) (c_kgreat _ c) rfl fun v_ w2 h_ => ?_))
     obtain ⟨rfl, E_⟩ := h_
     replace E := E.then E_
     refine Sv (oF hk0 rfl rfl) (Zm rfl (Sg rfl hk1 (oM rfl) (sgc rfl hk1 (oC ent120 rfl) (c_digit _ c) rfl fun v_ w3 h_ => ?_)))
     obtain ⟨rfl, E_⟩ := h_
     replace E := E.then E_
     exact Sv (oF hk1 rfl rfl) (Zm rfl (Sg rfl hk2 (oM rfl) (Sg rfl hk2 (oE rfl rfl) (Sv (oF hk2 rfl rfl) (Zm rfl (Sx rfl (dT hk3) (Sx rfl (dT hk3) (Sv (oT (dT hk3) rfl rfl) (Za rfl (Ln (e_K (hK2 _ _ _ _ (cR (ret1 rfl rfl ⟨by simp_all [qRoom], E⟩))))))))))))))
    ·by_cases hk4 : (c : Int) = 45
     ·refine Cr (Zm rfl (sc (oC ent118 rfl) (c_small _ c) rfl fun v_ w4 h_ => ?_))
      obtain ⟨rfl, E_⟩ := h_
      replace E := E.then E_
      refine Zm rfl (Sg rfl hk0 (oM rfl) (sgc rfl hk0 (oC ent119 rfl) (c_kgreat _ c) rfl fun v_ w5 h_ => ?_))
      obtain ⟨rfl, E_⟩ := h_
      replace E := E.then E_
      refine Sv (oF hk0 rfl rfl) (Zm rfl (Sg rfl hk1 (oM rfl) (sgc rfl hk1 (oC ent120 rfl) (c_digit _ c) rfl fun v_ w6 h_ => ?_)))
      obtain ⟨rfl, E_⟩ := h_
      replace E := E.then E_
      exact Sv (oF hk1 rfl rfl) (Zm rfl (Sg rfl hk2 (oM rfl) (Sg rfl hk2 (oE rfl rfl) (Sv (oF hk2 rfl rfl) (Zm rfl (Sg rfl (dF hk3) (oM rfl) (Sg rfl (dF hk3) (oE rfl rfl) (Sv (oF (dF hk3) rfl rfl) (Za rfl (Ln (e_K (hK2 _ _ _ _ (cR (ret1 rfl rfl ⟨by simp_all [qRoom], E⟩))))))))))))))
     ·refine Cr (Zm rfl (sc (oC ent118 rfl) (c_small _ c) rfl fun v_ w7 h_ => ?_))
      obtain ⟨rfl, E_⟩ := h_
      replace E := E.then E_
      refine Zm rfl (Sg rfl hk0 (oM rfl) (sgc rfl hk0 (oC ent119 rfl) (c_kgreat _ c) rfl fun v_ w8 h_ => ?_))
      obtain ⟨rfl, E_⟩ := h_
      replace E := E.then E_
      refine Sv (oF hk0 rfl rfl) (Zm rfl (Sg rfl hk1 (oM rfl) (sgc rfl hk1 (oC ent120 rfl) (c_digit _ c) rfl fun v_ w9 h_ => ?_)))
      obtain ⟨rfl, E_⟩ := h_
      replace E := E.then E_
      exact Sv (oF hk1 rfl rfl) (Zm rfl (Sg rfl hk2 (oM rfl) (Sg rfl hk2 (oE rfl rfl) (Sv (oF hk2 rfl rfl) (Zm rfl (Sg rfl (dF hk3) (oM rfl) (Sg rfl (dF hk3) (oE rfl rfl) (Sv (oF (dF hk3) rfl rfl) (Za rfl (Ln (e_K (hK2 _ _ _ _ (cR (ret1 rfl rfl ⟨by simp_all [qRoom], E⟩))))))))))))))
   ·refine Cr (Zm rfl (sc (oC ent118 rfl) (c_small _ c) rfl fun v_ w10 h_ => ?_))
    obtain ⟨rfl, E_⟩ := h_
    replace E := E.then E_
    refine Zm rfl (Sg rfl hk0 (oM rfl) (sgc rfl hk0 (oC ent119 rfl) (c_kgreat _ c) rfl fun v_ w11 h_ => ?_))
    obtain ⟨rfl, E_⟩ := h_
    replace E := E.then E_
    refine Sv (oF hk0 rfl rfl) (Zm rfl (Sg rfl hk1 (oM rfl) (sgc rfl hk1 (oC ent120 rfl) (c_digit _ c) rfl fun v_ w12 h_ => ?_)))
    obtain ⟨rfl, E_⟩ := h_
    replace E := E.then E_
    exact Sv (oF hk1 rfl rfl) (Zm rfl (Sx rfl hk2 (Sx rfl hk2 (Sv (oT hk2 rfl rfl) (Zm rfl (Sx rfl rfl (Sx rfl rfl (Sv (oT rfl rfl rfl) (Za rfl (Ln (e_K (hK2 _ _ _ _ (cR (ret1 rfl rfl ⟨by simp_all [qRoom], E⟩))))))))))))))
  ·refine Cr (Zm rfl (sc (oC ent118 rfl) (c_small _ c) rfl fun v_ w13 h_ => ?_))
   obtain ⟨rfl, E_⟩ := h_
   replace E := E.then E_
   refine Zm rfl (Sg rfl hk0 (oM rfl) (sgc rfl hk0 (oC ent119 rfl) (c_kgreat _ c) rfl fun v_ w14 h_ => ?_))
   obtain ⟨rfl, E_⟩ := h_
   replace E := E.then E_
   refine Sv (oF hk0 rfl rfl) (Zm rfl (Sx rfl hk1 (Sx rfl hk1 (Sv (oT hk1 rfl rfl) (Zm rfl (Sx rfl rfl (Sx rfl rfl (Sv (oT rfl rfl rfl) (Zm rfl (Sx rfl rfl (Sx rfl rfl (Sv (oT rfl rfl rfl) (Za rfl ?_)))))))))))))
   exact Ln (e_K (hK2 _ _ _ _ (cR (ret1 rfl rfl ⟨by simp_all [qRoom], E⟩))))
 ·refine Cr (Zm rfl (sc (oC ent118 rfl) (c_small _ c) rfl fun v_ w15 h_ => ?_))
  obtain ⟨rfl, E_⟩ := h_
  replace E := E.then E_
  refine Zm rfl (Sx rfl hk0 (Sx rfl hk0 (Sv (oT hk0 rfl rfl) (Zm rfl (Sx rfl rfl (Sx rfl rfl (Sv (oT rfl rfl rfl) (Zm rfl (Sx rfl rfl (Sx rfl rfl (Sv (oT rfl rfl rfl) (Zm rfl (Sx rfl rfl ?_)))))))))))))
  exact Sx rfl rfl (Sv (oT rfl rfl rfl) (Za rfl (Ln (e_K (hK2 _ _ _ _ (cR (ret1 rfl rfl ⟨by simp_all [qRoom], E⟩)))))))

theorem c_kKey (w : World) (c : Nat) (h1 : c ≤ 1114111) (h2 : ¬ (55296 ≤ c ∧ c ≤ 57343)) : Calls Tryz.prog 139 [.int .i32 (c : Int)].toArray w (Ret fun u w' => u = .bool (qKey c) ∧ Mod [] w w') := by
 refine enter Tryz.func139 rfl rfl rfl (l := [(0, _)]) ⟨rfl, trivial⟩ ?_
 have E := Mod.refl [] w
 refine Cq fun K1 hK1 => Cr (Za rfl (Ln (e_K (hK1 _ _ _ _ (Cq fun K2 hK2 => ?_)))))
 rcases hk0 : kS c with _ | _
 ·rcases hk1 : kG c with _ | _
  ·rcases hk2 : kD c with _ | _
   ·by_cases hk3 : (c : Int) = 95
    ·refine Cr (Zm rfl (sc (oC ent118 rfl) (c_small _ c) rfl fun v_ w1 h_ => ?_))
     obtain ⟨rfl, E_⟩ := h_
     replace E := E.then E_
     refine Zm rfl (Sg rfl hk0 (oM rfl) (sgc rfl hk0 (oC ent119 rfl) (c_kgreat _ c) rfl fun v_ w2 h_ => ?_))
     obtain ⟨rfl, E_⟩ := h_
     replace E := E.then E_
     refine Sv (oF hk0 rfl rfl) (Zm rfl (Sg rfl hk1 (oM rfl) (sgc rfl hk1 (oC ent120 rfl) (c_digit _ c) rfl fun v_ w3 h_ => ?_)))
     obtain ⟨rfl, E_⟩ := h_
     replace E := E.then E_
     exact Sv (oF hk1 rfl rfl) (Zm rfl (Sg rfl hk2 (oM rfl) (Sg rfl hk2 (oE rfl rfl) (Sv (oF hk2 rfl rfl) (Za rfl (Ln (e_K (hK2 _ _ _ _ (cR (ret1 rfl rfl ⟨by simp_all [qKey], E⟩))))))))))
    ·refine Cr (Zm rfl (sc (oC ent118 rfl) (c_small _ c) rfl fun v_ w4 h_ => ?_))
     obtain ⟨rfl, E_⟩ := h_
     replace E := E.then E_
     refine Zm rfl (Sg rfl hk0 (oM rfl) (sgc rfl hk0 (oC ent119 rfl) (c_kgreat _ c) rfl fun v_ w5 h_ => ?_))
     obtain ⟨rfl, E_⟩ := h_
     replace E := E.then E_
     refine Sv (oF hk0 rfl rfl) (Zm rfl (Sg rfl hk1 (oM rfl) (sgc rfl hk1 (oC ent120 rfl) (c_digit _ c) rfl fun v_ w6 h_ => ?_)))
     obtain ⟨rfl, E_⟩ := h_
     replace E := E.then E_
     exact Sv (oF hk1 rfl rfl) (Zm rfl (Sg rfl hk2 (oM rfl) (Sg rfl hk2 (oE rfl rfl) (Sv (oF hk2 rfl rfl) (Za rfl (Ln (e_K (hK2 _ _ _ _ (cR (ret1 rfl rfl ⟨by simp_all [qKey], E⟩))))))))))
   ·refine Cr (Zm rfl (sc (oC ent118 rfl) (c_small _ c) rfl fun v_ w7 h_ => ?_))
    obtain ⟨rfl, E_⟩ := h_
    replace E := E.then E_
    refine Zm rfl (Sg rfl hk0 (oM rfl) (sgc rfl hk0 (oC ent119 rfl) (c_kgreat _ c) rfl fun v_ w8 h_ => ?_))
    obtain ⟨rfl, E_⟩ := h_
    replace E := E.then E_
    refine Sv (oF hk0 rfl rfl) (Zm rfl (Sg rfl hk1 (oM rfl) (sgc rfl hk1 (oC ent120 rfl) (c_digit _ c) rfl fun v_ w9 h_ => ?_)))
    obtain ⟨rfl, E_⟩ := h_
    replace E := E.then E_
    exact Sv (oF hk1 rfl rfl) (Zm rfl (Sx rfl hk2 (Sx rfl hk2 (Sv (oT hk2 rfl rfl) (Za rfl (Ln (e_K (hK2 _ _ _ _ (cR (ret1 rfl rfl ⟨by simp_all [qKey], E⟩))))))))))
  ·refine Cr (Zm rfl (sc (oC ent118 rfl) (c_small _ c) rfl fun v_ w10 h_ => ?_))
   obtain ⟨rfl, E_⟩ := h_
   replace E := E.then E_
   refine Zm rfl (Sg rfl hk0 (oM rfl) (sgc rfl hk0 (oC ent119 rfl) (c_kgreat _ c) rfl fun v_ w11 h_ => ?_))
   obtain ⟨rfl, E_⟩ := h_
   replace E := E.then E_
   exact Sv (oF hk0 rfl rfl) (Zm rfl (Sx rfl hk1 (Sx rfl hk1 (Sv (oT hk1 rfl rfl) (Zm rfl (Sx rfl rfl (Sx rfl rfl (Sv (oT rfl rfl rfl) (Za rfl (Ln (e_K (hK2 _ _ _ _ (cR (ret1 rfl rfl ⟨by simp_all [qKey], E⟩))))))))))))))
 ·refine Cr (Zm rfl (sc (oC ent118 rfl) (c_small _ c) rfl fun v_ w12 h_ => ?_))
  obtain ⟨rfl, E_⟩ := h_
  replace E := E.then E_
  refine Zm rfl (Sx rfl hk0 (Sx rfl hk0 (Sv (oT hk0 rfl rfl) (Zm rfl (Sx rfl rfl (Sx rfl rfl (Sv (oT rfl rfl rfl) (Zm rfl (Sx rfl rfl (Sx rfl rfl (Sv (oT rfl rfl rfl) (Za rfl (Ln ?_)))))))))))))
  exact e_K (hK2 _ _ _ _ (cR (ret1 rfl rfl ⟨by simp_all [qKey], E⟩)))

theorem c_all (w : World) (s : Str) (k : FuncId) (q : Nat → Bool) (he : Ent Tryz.prog k) (hk : ∀ (w : World) (c : Nat), c ≤ 1114111 → ¬ (55296 ≤ c ∧ c ≤ 57343) → Calls Tryz.prog k [.int .i32 (c : Int)].toArray w (Ret fun u w' => u = .bool (q c) ∧ Mod [] w w')) (hq : ∀ c, q c = true → c < 128) : Calls Tryz.prog 116 [S s, .func (.func k) #[] #[]].toArray w (Ret fun u w' => u = .bool (allB q s) ∧ Mod [] w w') := by
 refine enter Tryz.func116 rfl rfl rfl (l := [(0, _), (1, _)]) ⟨rfl, rfl, trivial⟩ ?_
 have E := Mod.refl [] w
 refine Cq fun K1 hK1 => Cr (Za rfl (Ln (e_K (hK1 _ _ _ _ (Cq fun K2 hK2 => Cq fun K3 hK3 => Cr (Zm rfl (s_range Tryz.underlying9 rfl rfl fun gi w1 IT hgi EI => ?_)))))))
 have Lgi : w.heap.size ≤ gi := by have := E.size; omega
 replace E := E.then EI
 refine Ln (e_K (hK3 _ _ _ _ (cB (c_loop (σ := Nat) (fun p => [(0, S s), (1, .func (.func k) #[] #[]), (8, .pointer (some ⟨gi, 0, none⟩))]) (fun p w1 => p ≤ s.length ∧ (s.take p).all (fun b => q b.toNat) = true ∧ It w1 gi s p ∧ Mod [] w w1) (fun p => s.length - p) (0) ⟨rfl, rfl, rfl, trivial⟩ (⟨by omega, by simp, IT, E⟩) ?_))))
 rintro p w2 ⟨hp, ha, IT, E⟩
 refine Cq fun K4 hK4 => ?_
 by_cases hplt : p < s.length
 ·obtain ⟨b, hb⟩ : ∃ b, s[p]? = some b := ⟨_, List.getElem?_eq_getElem hplt⟩
  have hbl := b.toNat_lt
  by_cases hbs : b.toNat < 128
  ·skip
   refine Cr (s_next rfl IT hplt (dec_lt hb hbs) rfl fun w3 IT2 EN hzN => ?_)
   replace E := E.trans' EN (fun x hx => .inr (by simp at hx; subst hx; exact Lgi))
   clear IT
   have IT := IT2
   refine Sv (o_ext rfl rfl) (Ln (e_K (hK4 _ _ _ _ (Cq fun K5 hK5 => ?_))))
   refine c_cond rfl (fun h10 => ?_) (fun h10 => ?_)
   ·skip
    refine cK (e_K (hK5 _ _ _ _ (cB (Cq fun K6 hK6 => Cr (Sv (o_ext rfl rfl) (Za rfl (Ln (e_K (hK6 _ _ _ _ (Cq fun K7 hK7 => Cr (Zm rfl (Zm rfl (sc (o_callv he rfl rfl) (hk _ b.toNat (by omega) (by omega)) rfl fun v_ w4 h_ => ?_)))))))))))))
    obtain ⟨rfl, E_⟩ := h_
    replace IT := IT.mod0 E_
    replace E := E.then E_
    refine Sv (o_not rfl) (Ln (e_K (hK7 _ _ _ _ ?_)))
    refine c_cond rfl (fun h15 => ?_) (fun h15 => ?_)
    ·have hR : allB q s = false := allB_no hb (by simpa using h15)
     exact Cq fun K8 hK8 => Cr (Za rfl (Ln (e_K (hK8 _ _ _ _ (cR (eI (by simp) (eT (by simp) (eI (by simp) (eT (by simp) (ret1 rfl rfl ⟨by rw [hR], E⟩))))))))))
    ·have hnx := all_succ hb ha (by simpa using h15)
     exact cK (eI (by simp) (eR (σ := Nat) (s := p) (p + 1) ⟨rfl, rfl, rfl, trivial⟩ ⟨by omega, hnx, IT, E⟩ (by omega)))
   ·cases h10
  ·obtain ⟨c, m, hdec, hc128, hc1, hc2⟩ := dec_ge hb (by omega)
   refine Cr (s_next rfl IT hplt (hdec) rfl fun w5 IT2 EN hzN => ?_)
   replace E := E.trans' EN (fun x hx => .inr (by simp at hx; subst hx; exact Lgi))
   clear IT
   have IT := IT2
   refine Sv (o_ext rfl rfl) (Ln (e_K (hK4 _ _ _ _ (Cq fun K9 hK9 => ?_))))
   refine c_cond rfl (fun h10 => ?_) (fun h10 => ?_)
   ·skip
    refine cK (e_K (hK9 _ _ _ _ (cB (Cq fun K10 hK10 => Cr (Sv (o_ext rfl rfl) (Za rfl (Ln (e_K (hK10 _ _ _ _ (Cq fun K11 hK11 => Cr (Zm rfl (Zm rfl (sc (o_callv he rfl rfl) (hk _ c (by omega) (by omega)) rfl fun v_ w6 h_ => ?_)))))))))))))
    obtain ⟨rfl, E_⟩ := h_
    replace IT := IT.mod0 E_
    replace E := E.then E_
    refine Sv (o_not rfl) (Ln (e_K (hK11 _ _ _ _ ?_)))
    refine c_cond rfl (fun h15 => ?_) (fun h15 => ?_)
    ·have hR : allB q s = false := allB_no hb (bF fun h => by have := hq _ h; omega)
     exact Cq fun K12 hK12 => Cr (Za rfl (Ln (e_K (hK12 _ _ _ _ (cR (eI (by simp) (eT (by simp) (eI (by simp) (eT (by simp) (ret1 rfl rfl ⟨by rw [hR], E⟩))))))))))
    ·exact absurd (hq c (by simpa using h15)) (by omega)
   ·cases h10
 ·have hs_end := hplt
  have hR := allB_yes (q := q) (by omega) ha
  refine Cr (s_next_end rfl IT hs_end rfl (Sv (o_ext rfl rfl) (Ln (e_K (hK4 _ _ _ _ (Cq fun K13 hK13 => ?_))))))
  refine c_cond rfl (fun h10 => ?_) (fun h10 => ?_)
  ·cases h10
  ·skip
   exact c_exit (eT (by simp) (eT (by simp) (e_hit (e_K (hK2 _ _ _ _ (Cq fun K14 hK14 => Cr (Zm rfl (Sv (o_sne rfl rfl) (Za rfl (Ln (e_K (hK14 _ _ _ _ (cR (ret1 rfl rfl ⟨by rw [hR], E⟩))))))))))))))
end Go.Proofs.YtkhbnhdlelmbnaaGreatDoor.V

set_option linter.unusedVariables false
set_option linter.unusedSimpArgs false
namespace Go.Proofs.YtkhbnhdlelmbnaaGreatDoor.V
open Go
theorem cut_colon' (s : Str) : Lib.cut s [58] = (s.take (colonAt s), s.drop (colonAt s + 1), decide (colonAt s < s.length)) := by
  rw [cut_colon]
  have := colon_le s
  by_cases h : colonAt s < s.length
  · rw [if_pos h, decide_eq_true h]
  · rw [if_neg h, decide_eq_false h, List.take_of_length_le (by omega), List.drop_eq_nil_of_le (by omega)]
theorem server_e1 (s : Str) : decide (colonAt s = s.length) = !decide (colonAt s < s.length) := by
  have := colon_le s
  by_cases h : colonAt s < s.length
  · rw [decide_eq_true h, decide_eq_false (by omega)]; rfl
  · rw [decide_eq_false h, decide_eq_true (by omega)]; rfl
theorem server_e2 (s : Str) : decide (s.length - colonAt s ≤ 6) = decide (((s.drop (colonAt s + 1)).length : Int) ≤ 5) := by
  rw [List.length_drop, decide_eq_decide]
  omega
theorem len_e3 (s : Str) : decide (s.length ≤ 255) = decide ((s.length : Int) ≤ 255) := by
  rw [decide_eq_decide]
  omega
/-- has a text a sign ahead, and isn't it too long? -/
def partG (sign : UInt8) (s : Str) : Bool := decide (s.head? = some sign) && decide ((s.length : Int) ≤ 255)
theorem namedB_eq {sign : UInt8} (h58 : sign ≠ 58) (q : Nat → Bool) (s : Str) :
    namedB sign q s = (partG sign s && decide (colonAt (s.drop 1) < (s.drop 1).length) && serverB ((s.drop 1).drop (colonAt (s.drop 1) + 1)) && allB q ((s.drop 1).take (colonAt (s.drop 1)))) := by
  cases s with
  | nil => simp [namedB, partG]
  | cons b r =>
    by_cases hb : b = sign
    · subst hb
      have hc : colonAt (b :: r) = colonAt r + 1 := by
        have : (b == 58) = false := by simpa using h58
        simp [colonAt, List.findIdx_cons, this]
      simp only [namedB, partG, hc, List.drop_succ_cons, List.drop_zero, List.length_cons, List.head?_cons, List.take_succ_cons, decide_true]
      rw [show decide (r.length + 1 ≤ 255) = decide (((r.length + 1 : Nat) : Int) ≤ 255) by rw [decide_eq_decide]; omega, show decide (colonAt r + 1 < r.length + 1) = decide (colonAt r < r.length) by rw [decide_eq_decide]; omega]
      generalize decide (((r.length + 1 : Nat) : Int) ≤ 255) = a1
      generalize decide (colonAt r < r.length) = a2
      generalize allB q (r.take (colonAt r)) = a3
      generalize serverB (r.drop (colonAt r + 1)) = a4
      cases a1 <;> cases a2 <;> cases a3 <;> cases a4 <;> rfl
    · have : decide ((b :: r).head? = some sign) = false := by simp [hb]
      rw [namedB, partG, this]
      simp
theorem named_pos {sign : UInt8} {s : Str} (h58 : sign ≠ 58) (hh : s.head? = some sign) : 0 < colonAt s := by
  cases s with
  | nil => cases hh
  | cons b r =>
    obtain rfl : b = sign := by simpa using hh
    have : (b == 58) = false := by simpa using h58
    simp [colonAt, List.findIdx_cons, this]
theorem hasP_take (s p : Str) : Lib.hasPrefix s p = decide (s.take p.length = p) := by
  unfold Lib.hasPrefix
  rw [Bool.eq_iff_iff]
  simp only [decide_eq_true_eq, List.isPrefixOf_iff_prefix]
  rw [List.prefix_iff_eq_take]
  exact eq_comm
theorem keyB_eq (s : Str) : keyB s = (Lib.hasPrefix s edS && decide ((s.length : Int) ≤ 255) && allB qKey (Lib.trimPrefix s edS)) := by
  have h8 : edS.length = 8 := rfl
  unfold keyB Lib.trimPrefix
  rw [hasP_take, h8, len_e3]
  by_cases h : s.take 8 = edS
  · rw [decide_eq_true h, if_pos rfl]
    generalize decide ((s.length : Int) ≤ 255) = a1
    generalize allB qKey (s.drop 8) = a2
    cases a1 <;> cases a2 <;> rfl
  · rw [decide_eq_false h]
    simp
/-! ### the document's kinds -/
def okK1 (c : Nat) (k : UInt8) : Bool := (decide ((k.toNat : Int) = 97) && decide ((c : Int) ≥ 97) && decide ((c : Int) ≤ 122)) || (decide ((k.toNat : Int) = 65) && decide ((c : Int) ≥ 65) && decide ((c : Int) ≤ 90)) || (decide ((k.toNat : Int) = 48) && decide ((c : Int) ≥ 48) && decide ((c : Int) ≤ 57))
def okQ (kinds signs : Str) (c : Nat) : Bool := kinds.any (okK1 c) || signs.any (fun g => decide ((g.toNat : Int) = (c : Int)))
theorem any_succ' {α : Type} {l : List α} {j : Nat} {x : α} (f : α → Bool) (h : l[j]? = some x) : (l.take (j + 1)).any f = ((l.take j).any f || f x) := by
  have hlt := (List.getElem?_eq_some_iff.1 h).1
  rw [List.take_succ_eq_append_getElem hlt, (List.getElem?_eq_some_iff.1 h).2, List.any_append]
  simp
theorem u8_all {q r : Nat → Bool} (h : ∀ i : Fin 256, q i.val = r i.val) (b : UInt8) : q b.toNat = r b.toNat := h ⟨b.toNat, b.toNat_lt⟩
theorem q_server (b : UInt8) : qServer b.toNat = okQ [97, 48] [46, 45] b.toNat := u8_all (by decide +kernel) b
theorem q_user (b : UInt8) : qUser b.toNat = okQ [97, 48] userS b.toNat := u8_all (by decide +kernel) b
theorem q_room (b : UInt8) : qRoom b.toNat = okQ [97, 65, 48] [95, 45] b.toNat := u8_all (by decide +kernel) b
theorem q_key (b : UInt8) : qKey b.toNat = okQ [97, 65, 48] [95] b.toNat := u8_all (by decide +kernel) b
theorem q_digit (b : UInt8) : kD b.toNat = okQ [48] [] b.toNat := u8_all (by decide +kernel) b
theorem colon_at {s : Str} {i : Nat} {b : UInt8} (h : s[i]? = some b) (ha : ∀ j b, j < i → s[j]? = some b → b ≠ 58) (hb : b = 58) : colonAt s = i := by
  have hlt := (List.getElem?_eq_some_iff.1 h).1
  unfold colonAt
  rw [List.findIdx_eq hlt]
  refine ⟨by rw [(List.getElem?_eq_some_iff.1 h).2]; simpa using hb, fun j hj => ?_⟩
  have := ha j _ hj (List.getElem?_eq_getElem (by omega))
  simpa using this
theorem colon_none {s : Str} (ha : ∀ j b, j < s.length → s[j]? = some b → b ≠ 58) : colonAt s = s.length := by
  have := colon_le s
  rcases Nat.lt_or_ge (colonAt s) s.length with h | h
  · exfalso
    have h1 : (s[colonAt s] == 58) = true := List.findIdx_getElem (p := fun b => b == 58) (w := h)
    exact ha _ _ h (List.getElem?_eq_getElem h) (by simpa using h1)
  · omega
end Go.Proofs.YtkhbnhdlelmbnaaGreatDoor.V
