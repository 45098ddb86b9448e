/-
  A part of the proof: names with a sign; keys; kinds of bytes, as the document tells them; the document's names: its answers in the words of the walk. No condition of its own.
-/
import Derived.Test.YtknndpjacklkeaaGreatDoorM9
import Derived.Test.YtknndpjacklkeaaGreatDoorM11
import Derived.Test.YtknndpjacklkeaaGreatDoorM4
set_option linter.unusedVariables false
set_option linter.unusedSimpArgs false
set_option maxRecDepth 10000
namespace Go.Proofs.YtknndpjacklkeaaGreatDoor.V
open Go Go.Proofs
theorem ent228 : Ent Tryz.prog 228 := Ent.of Tryz.func228 (by kernel_rfl) (by kernel_rfl)
theorem ent100 : Ent Tryz.prog 100 := Ent.of Tryz.func100 (by kernel_rfl) (by kernel_rfl)
theorem ent194 : Ent Tryz.prog 194 := Ent.of Tryz.func194 (by kernel_rfl) (by kernel_rfl)
theorem ent161 : Ent Tryz.prog 161 := Ent.of Tryz.func161 (by kernel_rfl) (by kernel_rfl)
theorem ent163 : Ent Tryz.prog 163 := Ent.of Tryz.func163 (by kernel_rfl) (by kernel_rfl)
theorem ent165 : Ent Tryz.prog 165 := Ent.of Tryz.func165 (by kernel_rfl) (by kernel_rfl)
theorem ent162 : Ent Tryz.prog 162 := Ent.of Tryz.func162 (by kernel_rfl) (by kernel_rfl)
theorem c_small (w : World) (c : Nat) : Calls Tryz.prog 161 [.int .i32 (c : Int)].toArray w (Ret fun u w' => u = .bool (kS c) ∧ Mod [] w w') := by
 refine enter Tryz.func161 rfl rfl rfl (l := [(0, _)]) ⟨rfl, trivial⟩ ?_
 have E := Mod.refl [] w
 refine Cq fun K1 hK1 => Cr (Za rfl (Ln (e_K (hK1 _ _ _ _ (Cq fun K2 hK2 => Cr (Zm rfl (Sv (o_geq rfl rfl) ?_)))))))
 refine bD (fun hs1_0 : (c : Int) ≥ 97 => ?_) (fun hs1_0 => ?_)
 ·refine tW 3 rfl ?_
  refine bD (fun hs1_1 : (c : Int) ≤ 122 => ?_) (fun hs1_1 => ?_)
  ·exact tW 2 rfl (Ln (e_K (hK2 _ _ _ _ (cR (ret1 rfl rfl ⟨congrArg Value.bool (by rw [Bool.eq_iff_iff]; simp [kS]; omega), E⟩)))))
  ·exact tW 2 rfl (Ln (e_K (hK2 _ _ _ _ (cR (ret1 rfl rfl ⟨congrArg Value.bool (by rw [Bool.eq_iff_iff]; simp [kS]; omega), E⟩)))))
 ·exact tW 5 rfl (Ln (e_K (hK2 _ _ _ _ (cR (ret1 rfl rfl ⟨congrArg Value.bool (by rw [Bool.eq_iff_iff]; simp [kS]; omega), E⟩)))))

theorem c_kgreat (w : World) (c : Nat) : Calls Tryz.prog 162 [.int .i32 (c : Int)].toArray w (Ret fun u w' => u = .bool (kG c) ∧ Mod [] w w') := by
 refine enter Tryz.func162 rfl rfl rfl (l := [(0, _)]) ⟨rfl, trivial⟩ ?_
 have E := Mod.refl [] w
 refine Cq fun K1 hK1 => Cr (Za rfl (Ln (e_K (hK1 _ _ _ _ (Cq fun K2 hK2 => Cr (Zm rfl (Sv (o_geq rfl rfl) ?_)))))))
 refine bD (fun hs1_0 : (c : Int) ≥ 65 => ?_) (fun hs1_0 => ?_)
 ·refine tW 3 rfl ?_
  refine bD (fun hs1_1 : (c : Int) ≤ 90 => ?_) (fun hs1_1 => ?_)
  ·exact tW 2 rfl (Ln (e_K (hK2 _ _ _ _ (cR (ret1 rfl rfl ⟨congrArg Value.bool (by rw [Bool.eq_iff_iff]; simp [kG]; omega), E⟩)))))
  ·exact tW 2 rfl (Ln (e_K (hK2 _ _ _ _ (cR (ret1 rfl rfl ⟨congrArg Value.bool (by rw [Bool.eq_iff_iff]; simp [kG]; omega), E⟩)))))
 ·exact tW 5 rfl (Ln (e_K (hK2 _ _ _ _ (cR (ret1 rfl rfl ⟨congrArg Value.bool (by rw [Bool.eq_iff_iff]; simp [kG]; omega), E⟩)))))

theorem c_digit (w : World) (c : Nat) : Calls Tryz.prog 163 [.int .i32 (c : Int)].toArray w (Ret fun u w' => u = .bool (kD c) ∧ Mod [] w w') := by
 refine enter Tryz.func163 rfl rfl rfl (l := [(0, _)]) ⟨rfl, trivial⟩ ?_
 have E := Mod.refl [] w
 refine Cq fun K1 hK1 => Cr (Za rfl (Ln (e_K (hK1 _ _ _ _ (Cq fun K2 hK2 => Cr (Zm rfl (Sv (o_geq rfl rfl) ?_)))))))
 refine bD (fun hs1_0 : (c : Int) ≥ 48 => ?_) (fun hs1_0 => ?_)
 ·refine tW 3 rfl ?_
  refine bD (fun hs1_1 : (c : Int) ≤ 57 => ?_) (fun hs1_1 => ?_)
  ·exact tW 2 rfl (Ln (e_K (hK2 _ _ _ _ (cR (ret1 rfl rfl ⟨congrArg Value.bool (by rw [Bool.eq_iff_iff]; simp [kD]; omega), E⟩)))))
  ·exact tW 2 rfl (Ln (e_K (hK2 _ _ _ _ (cR (ret1 rfl rfl ⟨congrArg Value.bool (by rw [Bool.eq_iff_iff]; simp [kD]; omega), E⟩)))))
 ·exact tW 5 rfl (Ln (e_K (hK2 _ _ _ _ (cR (ret1 rfl rfl ⟨congrArg Value.bool (by rw [Bool.eq_iff_iff]; simp [kD]; omega), E⟩)))))

theorem c_validr (w : World) (c : Nat) (h1 : c ≤ 1114111) (h2 : ¬ (55296 ≤ c ∧ c ≤ 57343)) : Calls Tryz.prog 228 [.int .i32 (c : Int)].toArray w (Ret fun u w' => u = .bool true ∧ Mod [] w w') := by
 refine enter Tryz.func228 rfl rfl rfl (l := [(0, _)]) ⟨rfl, trivial⟩ ?_
 have E := Mod.refl [] w
 have hc0 : (0 : Int) ≤ (c : Int) := by omega
 refine Cq fun K1 hK1 => Cr (Za rfl (Ln (e_K (hK1 _ _ _ _ (Cq fun K2 hK2 => cB (Cq fun K3 hK3 => Cr (tW 2 rfl (bE (dT hc0) (tW 5 rfl (Ln (e_K (hK3 _ _ _ _ ?_))))))))))))
 refine c_if rfl (fun h3 => ?_) (fun h3 => ?_)
 ·exact Cq fun K4 hK4 => Cr (Za rfl (Ln (e_K (hK4 _ _ _ _ (cR (eI (by simp) (eT (by simp) (ret1 rfl rfl ⟨rfl, E⟩))))))))
 ·have hgt : (57343 : Int) < (c : Int) := by omega
  have hle : (c : Int) ≤ 1114111 := by omega
  refine Cq fun K5 hK5 => Cr (tW 2 rfl (bE (dT hgt) (tW 3 rfl (bE (dT hle) (tW 2 rfl (Ln (e_K (hK5 _ _ _ _ (c_true rfl (Cq fun K6 hK6 => Cr (Za rfl (Ln ?_))))))))))))
  exact e_K (hK6 _ _ _ _ (cR (eI (by simp) (eT (by simp) (ret1 rfl rfl ⟨rfl, E⟩)))))

theorem c_irune_hi (w : World) (s : Str) (c : Nat) (hs : ∀ x ∈ s, x.toNat < 128) (hl : 4 ≤ s.length) (hl2 : s.length ≤ 1000) (h1 : c ≤ 1114111) (h2 : ¬ (55296 ≤ c ∧ c ≤ 57343)) (h : 128 ≤ c) : Calls Tryz.prog 194 [S s, .int .i32 (c : Int)].toArray w (Ret fun u w' => u = .int .i64 (-1) ∧ Mod [] w w') := by
 refine enter Tryz.func194 rfl rfl rfl (l := [(0, _), (1, _)]) ⟨rfl, rfl, trivial⟩ ?_
 have E := Mod.refl [] w
 have hc0 : (0 : Int) ≤ (c : Int) := by omega
 have hc1 : ¬ (c : Int) < 128 := by omega
 obtain ⟨rs, hrs, hr2, hr4, bL, hbL, hbL2⟩ := enc_last h1 h2 h
 obtain ⟨b1, hb1⟩ : ∃ b1, s[rs.length - 1]? = some b1 := ⟨_, List.getElem?_eq_getElem (by omega)⟩
 have hb1s := hs b1 (List.mem_of_getElem? hb1)
 have hib : Lib.indexByte (s.drop (rs.length - 1 + 1)) bL = -1 := indexByte_none (fun x hx => hs x (List.mem_of_mem_drop hx)) hbL2
 refine Cq fun K1 hK1 => Cr (Za rfl (Ln (e_K (hK1 _ _ _ _ (cB (Cq fun K2 hK2 => Cr (tW 2 rfl (bE (dT hc0) (tW 3 rfl (bE (dF hc1) (tW 2 rfl (Ln ?_))))))))))))
 refine e_K (hK2 _ _ _ _ (c_false rfl (Cq fun K3 hK3 => Cr (tW 3 rfl (Ln (e_K (hK3 _ _ _ _ ?_)))))))
 refine c_if rfl (fun h171 => ?_) (fun h171 => ?_)
 ·refine Cq fun K4 hK4 => Cq fun K5 hK5 => Cr (Zm rfl (s_range Tryz.underlying9 rfl rfl fun gi w1 IT hgi EI => ?_))
  have Lgi : w.heap.size ≤ gi := by have := E.size; omega
  replace E := E.then EI
  refine Ln (e_K (hK5 _ _ _ _ (cB (c_loop (σ := Nat) (fun p => [(0, S s), (1, .int .i32 (c : Int)), (175, .pointer (some ⟨gi, 0, none⟩))]) (fun p w1 => p ≤ s.length ∧ It w1 gi s p ∧ Mod [] w w1) (fun p => s.length - p) (0) ⟨rfl, rfl, rfl, trivial⟩ (⟨by omega, IT, E⟩) ?_))))
  rintro p w2 ⟨hp, IT, E⟩
  refine Cq fun K6 hK6 => ?_
  by_cases hplt : p < s.length
  ·obtain ⟨b, hb⟩ : ∃ b, s[p]? = some b := ⟨_, List.getElem?_eq_getElem hplt⟩
   have hbs := hs b (List.mem_of_getElem? hb)
   refine Cr (s_next rfl IT hplt (dec_lt hb hbs) rfl fun w3 IT2 EN hzN => ?_)
   replace E := E.trans' EN (fun x hx => .inr (by simp at hx; subst hx; exact Lgi))
   clear IT
   have IT := IT2
   refine Sv (o_ext rfl rfl) (Ln (e_K (hK6 _ _ _ _ (Cq fun K7 hK7 => ?_))))
   refine c_cond rfl (fun h177 => ?_) (fun h177 => ?_)
   ·skip
    refine cK (e_K (hK7 _ _ _ _ (cB (Cq fun K8 hK8 => Cr (tW 4 rfl (Ln (e_K (hK8 _ _ _ _ (Cq fun K9 hK9 => Cr (tW 2 rfl (Ln (e_K (hK9 _ _ _ _ ?_)))))))))))))
    refine c_if rfl (fun h181 => ?_) (fun h181 => ?_)
    ·exact absurd h181 (by omega)
    ·exact cK (eI (by simp) (eR (σ := Nat) (s := p) (p + 1) ⟨rfl, rfl, rfl, trivial⟩ ⟨by omega, IT, E⟩ (by omega)))
   ·cases h177
  ·have hs_end := hplt
   refine Cr (s_next_end rfl IT hs_end rfl (Sv (o_ext rfl rfl) (Ln (e_K (hK6 _ _ _ _ (Cq fun K10 hK10 => ?_))))))
   refine c_cond rfl (fun h177 => ?_) (fun h177 => ?_)
   ·cases h177
   ·skip
    exact c_exit (eT (by simp) (eT (by simp) (e_hit (e_K (hK4 _ _ _ _ (Cq fun K11 hK11 => Cr (Za rfl (Ln (e_K (hK11 _ _ _ _ (cR (eI (by simp) (ret1 rfl rfl ⟨rfl, E⟩)))))))))))))
 ·refine Cq fun K12 hK12 => Cr (Zm rfl (sc (oC ent228 rfl) (c_validr _ c h1 h2) rfl fun v_ w4 h_ => ?_))
  obtain ⟨rfl, E_⟩ := h_
  replace E := E.then E_
  refine tW 2 rfl (Ln (e_K (hK12 _ _ _ _ ?_)))
  refine c_cond rfl (fun h183 => ?_) (fun h183 => ?_)
  ·cases h183
  ·refine c_scope (Cq fun K13 hK13 => Cr (Zm rfl (Sv ((o_r2s Tryz.underlying21 Tryz.underlying9 rfl).to (v' := S rs) (by rw [hrs])) (Za rfl (Ln (e_K (hK13 _ _ _ _ (Cq fun K14 hK14 => Cr (Zm rfl (Sv (o_slen Tryz.underlying9 rfl) (Sv (o_subE (r := ((rs.length - 1 : Nat) : Int)) rfl rfl (by rw [wrap64_in _ (by omega)]; omega)) (Za rfl ?_))))))))))))
   refine Ln (e_K (hK14 _ _ _ _ (Cq fun K15 hK15 => Cr (tW 2 rfl (Ln (e_K (hK15 _ _ _ _ (Cq fun K16 hK16 => Cr (Za rfl (Ln (e_K (hK16 _ _ _ _ (Cq fun K17 hK17 => cB ?_)))))))))))))
   refine c_loop (σ := Unit) (fun _ => [(0, S s), (7, S rs), (8, .int .i64 ((rs.length - 1 : Nat) : Int)), (9, .int .i64 ((rs.length - 1 : Nat) : Int))]) (fun _ w1 => Mod [] w w1) (fun _ => 0) (()) ⟨rfl, rfl, rfl, rfl, trivial⟩ (E) ?_
   rintro _ w5 E
   refine Cq fun K18 hK18 => Cq fun K19 hK19 => Cr (tW 2 rfl (Sv (o_slen Tryz.underlying9 rfl) (Sv (o_lss rfl rfl) (Ln (e_K (hK19 _ _ _ _ ?_))))))
   refine c_if rfl (fun h26 => ?_) (fun h26 => ?_)
   ·refine cK (e_K (hK18 _ _ _ _ (cB (c_scope (Cq fun K20 hK20 => Cq fun K21 hK21 => c_draw wide (by kernel_rfl) (tU 2 rfl rfl (tv (fun w_ E_ => (o_sidx Tryz.underlying9 rfl rfl (by omega) (by rw [Int.toNat_natCast]; exact hb1))) rfl rfl (tU 2 rfl rfl (tv (fun w_ E_ => (o_sidx Tryz.underlying9 rfl rfl (by omega) (by rw [Int.toNat_natCast]; exact hbL))) rfl rfl (tv (fun w_ E_ => (o_neq rfl rfl)) rfl rfl (tw_nil rfl fun w6 E_ => ?_)))))))))))
    replace E := E.then E_
    refine e_K (hK21 _ _ _ _ ?_)
    refine c_if rfl (fun h33 => ?_) (fun h33 => ?_)
    ·refine Cq fun K22 hK22 => c_draw wide (by kernel_rfl) (tU 2 rfl rfl (tv (fun w_ E_ => (o_addE (r := ((rs.length - 1 + 1 : Nat) : Int)) rfl rfl (by rw [wrap64_in _ (by omega)]; omega))) rfl rfl (tv (fun w_ E_ => (o_ssfrom Tryz.underlying9 rfl rfl (by omega))) rfl rfl (tU 2 rfl rfl (tv (fun w_ E_ => (o_sidx Tryz.underlying9 rfl rfl (by omega) (by rw [Int.toNat_natCast]; exact hbL))) rfl rfl (tc (fun w_ E_ => oC ent100 rfl) (fun w_ E_ => c_ib _ (s.drop (rs.length - 1 + 1)) bL) rfl rfl (tv (fun w_ E_ => (o_as rfl)) rfl rfl (tw_nil rfl fun w7 E_ => ?_))))))))
     replace E := E.then E_
     refine e_K (hK22 _ _ _ _ (Cq fun K23 hK23 => Cq fun K24 hK24 => Cr (tW 2 rfl (Ln (e_K (hK24 _ _ _ _ ?_))))))
     refine c_if rfl (fun h43 => ?_) (fun h43 => ?_)
     ·refine Cq fun K25 hK25 => Cr (Za rfl (Ln (e_K (hK25 _ _ _ _ (cR (eT (by simp) (eT (by simp) (e_scope (by simp) (eI (by simp) (eT (by simp) (eI (by simp) (eT (by simp) (e_scope (by simp) ?_)))))))))))))
      exact eI (by simp) (ret1 rfl rfl ⟨rfl, E⟩)
     ·exact absurd (by rw [hib]; decide) h43
    ·exact absurd (by omega) h33
   ·exact absurd (by omega) h26

theorem c_crune_hi (w : World) (s : Str) (c : Nat) (hs : ∀ x ∈ s, x.toNat < 128) (hl : 4 ≤ s.length) (hl2 : s.length ≤ 1000) (h1 : c ≤ 1114111) (h2 : ¬ (55296 ≤ c ∧ c ≤ 57343)) (h : 128 ≤ c) : Calls Tryz.prog 165 [S s, .int .i32 (c : Int)].toArray w (Ret fun u w' => u = .bool false ∧ Mod [] w w') := by
 refine enter Tryz.func165 rfl rfl rfl (l := [(0, _), (1, _)]) ⟨rfl, rfl, trivial⟩ ?_
 have E := Mod.refl [] w
 refine Cq fun K1 hK1 => Cr (Za rfl (Ln (e_K (hK1 _ _ _ _ (Cq fun K2 hK2 => Cr (tW 2 rfl (sc (oC ent194 rfl) (c_irune_hi _ s c hs hl hl2 h1 h2 h) rfl fun v_ w1 h_ => ?_)))))))
 obtain ⟨rfl, E_⟩ := h_
 replace E := E.then E_
 exact Sv (o_geq rfl rfl) (Za rfl (Ln (e_K (hK2 _ _ _ _ (cR (ret1 rfl rfl ⟨rfl, E⟩))))))

theorem c_crune (w : World) (c : Nat) (h1 : c ≤ 1114111) (h2 : ¬ (55296 ≤ c ∧ c ≤ 57343)) : Calls Tryz.prog 165 [S userS, .int .i32 (c : Int)].toArray w (Ret fun u w' => u = .bool (userS.any fun b => decide (b.toNat = c)) ∧ Mod [] w w') := by
 rcases Nat.lt_or_ge c 128 with h | h
 ·exact c_crune_lo w userS c h
 ·refine (c_crune_hi w userS c (by decide) (by decide) (by decide) h1 h2 h).mono fun e w' he => ?_
  cases e with
  | returned v =>
   obtain ⟨rfl, k⟩ := he
   refine ⟨?_, k⟩
   congr 1
   symm
   rw [List.any_eq_false]
   intro b hb
   have : b.toNat < 128 := (by decide : ∀ b ∈ userS, b.toNat < 128) b hb
   simp
   omega
  | panicked c => exact he.elim
  | outgrown => exact he.elim

theorem c_kServer (w : World) (c : Nat) (h1 : c ≤ 1114111) (h2 : ¬ (55296 ≤ c ∧ c ≤ 57343)) : Calls Tryz.prog 193 [.int .i32 (c : Int)].toArray w (Ret fun u w' => u = .bool (qServer c) ∧ Mod [] w w') := by
 refine enter Tryz.func193 rfl rfl rfl (l := [(0, _)]) ⟨rfl, trivial⟩ ?_
 have E := Mod.refl [] w
 refine Cq fun K1 hK1 => Cr (Za rfl (Ln (e_K (hK1 _ _ _ _ (Cq fun K2 hK2 => Cr (Zm rfl (sc (oC ent161 rfl) (c_small _ c) rfl fun v_ w1 h_ => ?_)))))))
 obtain ⟨rfl, E_⟩ := h_
 replace E := E.then E_
 refine bC (fun hk0 : (kS c) = true => ?_) (fun hk0 => ?_)
 ·exact tW 13 rfl (Ln (e_K (hK2 _ _ _ _ (cR (ret1 rfl rfl ⟨by simp_all [qServer], E⟩)))))
 ·refine tW 2 rfl (sgc rfl rfl (oC ent163 rfl) (c_digit _ c) rfl fun v_ w2 h_ => ?_)
  obtain ⟨rfl, E_⟩ := h_
  replace E := E.then E_
  refine bC (fun hk1 : (kD c) = true => ?_) (fun hk1 => ?_)
  ·exact tW 10 rfl (Ln (e_K (hK2 _ _ _ _ (cR (ret1 rfl rfl ⟨by simp_all [qServer], E⟩)))))
  ·refine tW 4 rfl ?_
   refine bD (fun hk2 : (c : Int) = 46 => ?_) (fun hk2 => ?_)
   ·exact tW 6 rfl (Ln (e_K (hK2 _ _ _ _ (cR (ret1 rfl rfl ⟨by simp_all [qServer], E⟩)))))
   ·refine tW 4 rfl ?_
    refine bD (fun hk3 : (c : Int) = 45 => ?_) (fun hk3 => ?_)
    ·exact tW 2 rfl (Ln (e_K (hK2 _ _ _ _ (cR (ret1 rfl rfl ⟨by simp_all [qServer], E⟩)))))
    ·exact tW 2 rfl (Ln (e_K (hK2 _ _ _ _ (cR (ret1 rfl rfl ⟨by simp_all [qServer], E⟩)))))

theorem c_kUser (w : World) (c : Nat) (h1 : c ≤ 1114111) (h2 : ¬ (55296 ≤ c ∧ c ≤ 57343)) : Calls Tryz.prog 164 [.int .i32 (c : Int)].toArray w (Ret fun u w' => u = .bool (qUser c) ∧ Mod [] w w') := by
 refine enter Tryz.func164 rfl rfl rfl (l := [(0, _)]) ⟨rfl, trivial⟩ ?_
 have E := Mod.refl [] w
 refine Cq fun K1 hK1 => Cr (Za rfl (Ln (e_K (hK1 _ _ _ _ (Cq fun K2 hK2 => Cr (Zm rfl (sc (oC ent161 rfl) (c_small _ c) rfl fun v_ w1 h_ => ?_)))))))
 obtain ⟨rfl, E_⟩ := h_
 replace E := E.then E_
 refine bC (fun hk0 : (kS c) = true => ?_) (fun hk0 => ?_)
 ·exact tW 9 rfl (Ln (e_K (hK2 _ _ _ _ (cR (ret1 rfl rfl ⟨by simp_all [qUser], E⟩)))))
 ·refine tW 2 rfl (sgc rfl rfl (oC ent163 rfl) (c_digit _ c) rfl fun v_ w2 h_ => ?_)
  obtain ⟨rfl, E_⟩ := h_
  replace E := E.then E_
  refine bC (fun hk1 : (kD c) = true => ?_) (fun hk1 => ?_)
  ·exact tW 6 rfl (Ln (e_K (hK2 _ _ _ _ (cR (ret1 rfl rfl ⟨by simp_all [qUser], E⟩)))))
  ·refine tW 3 rfl (sgc rfl rfl (oC ent165 rfl) (c_crune _ c h1 h2) rfl fun v_ w3 h_ => ?_)
   obtain ⟨rfl, E_⟩ := h_
   replace E := E.then E_
   refine bC (fun hk2 : (userS.any fun b => decide (b.toNat = c)) = true => ?_) (fun hk2 => ?_)
   ·exact tW 2 rfl (Ln (e_K (hK2 _ _ _ _ (cR (ret1 rfl rfl ⟨by simp_all [qUser], E⟩)))))
   ·exact tW 2 rfl (Ln (e_K (hK2 _ _ _ _ (cR (ret1 rfl rfl ⟨by simp_all [qUser], E⟩)))))

theorem c_kRoom (w : World) (c : Nat) (h1 : c ≤ 1114111) (h2 : ¬ (55296 ≤ c ∧ c ≤ 57343)) : Calls Tryz.prog 160 [.int .i32 (c : Int)].toArray w (Ret fun u w' => u = .bool (qRoom c) ∧ Mod [] w w') := by
 refine enter Tryz.func160 rfl rfl rfl (l := [(0, _)]) ⟨rfl, trivial⟩ ?_
 have E := Mod.refl [] w
 refine Cq fun K1 hK1 => Cr (Za rfl (Ln (e_K (hK1 _ _ _ _ (Cq fun K2 hK2 => Cr (Zm rfl (sc (oC ent161 rfl) (c_small _ c) rfl fun v_ w1 h_ => ?_)))))))
 obtain ⟨rfl, E_⟩ := h_
 replace E := E.then E_
 refine bC (fun hk0 : (kS c) = true => ?_) (fun hk0 => ?_)
 ·exact tW 17 rfl (Ln (e_K (hK2 _ _ _ _ (cR (ret1 rfl rfl ⟨by simp_all [qRoom], E⟩)))))
 ·refine tW 2 rfl (sgc rfl rfl (oC ent162 rfl) (c_kgreat _ c) rfl fun v_ w2 h_ => ?_)
  obtain ⟨rfl, E_⟩ := h_
  replace E := E.then E_
  refine bC (fun hk1 : (kG c) = true => ?_) (fun hk1 => ?_)
  ·exact tW 14 rfl (Ln (e_K (hK2 _ _ _ _ (cR (ret1 rfl rfl ⟨by simp_all [qRoom], E⟩)))))
  ·refine tW 3 rfl (sgc rfl rfl (oC ent163 rfl) (c_digit _ c) rfl fun v_ w3 h_ => ?_)
   obtain ⟨rfl, E_⟩ := h_
   replace E := E.then E_
   refine bC (fun hk2 : (kD c) = true => ?_) (fun hk2 => ?_)
   ·exact tW 10 rfl (Ln (e_K (hK2 _ _ _ _ (cR (ret1 rfl rfl ⟨by simp_all [qRoom], E⟩)))))
   ·refine tW 4 rfl ?_
    refine bD (fun hk3 : (c : Int) = 95 => ?_) (fun hk3 => ?_)
    ·exact tW 6 rfl (Ln (e_K (hK2 _ _ _ _ (cR (ret1 rfl rfl ⟨by simp_all [qRoom], E⟩)))))
    ·refine tW 4 rfl ?_
     refine bD (fun hk4 : (c : Int) = 45 => ?_) (fun hk4 => ?_)
     ·exact tW 2 rfl (Ln (e_K (hK2 _ _ _ _ (cR (ret1 rfl rfl ⟨by simp_all [qRoom], E⟩)))))
     ·exact tW 2 rfl (Ln (e_K (hK2 _ _ _ _ (cR (ret1 rfl rfl ⟨by simp_all [qRoom], E⟩)))))

theorem c_kKey (w : World) (c : Nat) (h1 : c ≤ 1114111) (h2 : ¬ (55296 ≤ c ∧ c ≤ 57343)) : Calls Tryz.prog 197 [.int .i32 (c : Int)].toArray w (Ret fun u w' => u = .bool (qKey c) ∧ Mod [] w w') := by
 refine enter Tryz.func197 rfl rfl rfl (l := [(0, _)]) ⟨rfl, trivial⟩ ?_
 have E := Mod.refl [] w
 refine Cq fun K1 hK1 => Cr (Za rfl (Ln (e_K (hK1 _ _ _ _ (Cq fun K2 hK2 => Cr (Zm rfl (sc (oC ent161 rfl) (c_small _ c) rfl fun v_ w1 h_ => ?_)))))))
 obtain ⟨rfl, E_⟩ := h_
 replace E := E.then E_
 refine bC (fun hk0 : (kS c) = true => ?_) (fun hk0 => ?_)
 ·exact tW 13 rfl (Ln (e_K (hK2 _ _ _ _ (cR (ret1 rfl rfl ⟨by simp_all [qKey], E⟩)))))
 ·refine tW 2 rfl (sgc rfl rfl (oC ent162 rfl) (c_kgreat _ c) rfl fun v_ w2 h_ => ?_)
  obtain ⟨rfl, E_⟩ := h_
  replace E := E.then E_
  refine bC (fun hk1 : (kG c) = true => ?_) (fun hk1 => ?_)
  ·exact tW 10 rfl (Ln (e_K (hK2 _ _ _ _ (cR (ret1 rfl rfl ⟨by simp_all [qKey], E⟩)))))
  ·refine tW 3 rfl (sgc rfl rfl (oC ent163 rfl) (c_digit _ c) rfl fun v_ w3 h_ => ?_)
   obtain ⟨rfl, E_⟩ := h_
   replace E := E.then E_
   refine bC (fun hk2 : (kD c) = true => ?_) (fun hk2 => ?_)
   ·exact tW 6 rfl (Ln (e_K (hK2 _ _ _ _ (cR (ret1 rfl rfl ⟨by simp_all [qKey], E⟩)))))
   ·refine tW 4 rfl ?_
    refine bD (fun hk3 : (c : Int) = 95 => ?_) (fun hk3 => ?_)
    ·exact tW 2 rfl (Ln (e_K (hK2 _ _ _ _ (cR (ret1 rfl rfl ⟨by simp_all [qKey], E⟩)))))
    ·exact tW 2 rfl (Ln (e_K (hK2 _ _ _ _ (cR (ret1 rfl rfl ⟨by simp_all [qKey], E⟩)))))

theorem c_all (w : World) (s : Str) (k : FuncId) (q : Nat → Bool) (he : Ent Tryz.prog k) (hk : ∀ (w : World) (c : Nat), c ≤ 1114111 → ¬ (55296 ≤ c ∧ c ≤ 57343) → Calls Tryz.prog k [.int .i32 (c : Int)].toArray w (Ret fun u w' => u = .bool (q c) ∧ Mod [] w w')) (hq : ∀ c, q c = true → c < 128) : Calls Tryz.prog 159 [S s, .func (.func k) #[] #[]].toArray w (Ret fun u w' => u = .bool (allB q s) ∧ Mod [] w w') := by
 refine enter Tryz.func159 rfl rfl rfl (l := [(0, _), (1, _)]) ⟨rfl, rfl, trivial⟩ ?_
 have E := Mod.refl [] w
 refine Cq fun K1 hK1 => Cr (Za rfl (Ln (e_K (hK1 _ _ _ _ (Cq fun K2 hK2 => Cq fun K3 hK3 => Cr (Zm rfl (s_range Tryz.underlying9 rfl rfl fun gi w1 IT hgi EI => ?_)))))))
 have Lgi : w.heap.size ≤ gi := by have := E.size; omega
 replace E := E.then EI
 refine Ln (e_K (hK3 _ _ _ _ (cB (c_loop (σ := Nat) (fun p => [(0, S s), (1, .func (.func k) #[] #[]), (8, .pointer (some ⟨gi, 0, none⟩))]) (fun p w1 => p ≤ s.length ∧ (s.take p).all (fun b => q b.toNat) = true ∧ It w1 gi s p ∧ Mod [] w w1) (fun p => s.length - p) (0) ⟨rfl, rfl, rfl, trivial⟩ (⟨by omega, by simp, IT, E⟩) ?_))))
 rintro p w2 ⟨hp, ha, IT, E⟩
 refine Cq fun K4 hK4 => ?_
 by_cases hplt : p < s.length
 ·obtain ⟨b, hb⟩ : ∃ b, s[p]? = some b := ⟨_, List.getElem?_eq_getElem hplt⟩
  have hbl := b.toNat_lt
  by_cases hbs : b.toNat < 128
  ·skip
   refine Cr (s_next rfl IT hplt (dec_lt hb hbs) rfl fun w3 IT2 EN hzN => ?_)
   replace E := E.trans' EN (fun x hx => .inr (by simp at hx; subst hx; exact Lgi))
   clear IT
   have IT := IT2
   refine Sv (o_ext rfl rfl) (Ln (e_K (hK4 _ _ _ _ (Cq fun K5 hK5 => ?_))))
   refine c_cond rfl (fun h10 => ?_) (fun h10 => ?_)
   ·skip
    refine cK (e_K (hK5 _ _ _ _ (cB (Cq fun K6 hK6 => Cr (tW 2 rfl (Ln (e_K (hK6 _ _ _ _ (Cq fun K7 hK7 => Cr (tW 2 rfl (sc (o_callv he rfl rfl) (hk _ b.toNat (by omega) (by omega)) rfl fun v_ w4 h_ => ?_)))))))))))
    obtain ⟨rfl, E_⟩ := h_
    replace IT := IT.mod0 E_
    replace E := E.then E_
    refine Sv (o_not rfl) (Ln (e_K (hK7 _ _ _ _ ?_)))
    refine c_cond rfl (fun h15 => ?_) (fun h15 => ?_)
    ·have hR : allB q s = false := allB_no hb (by simpa using h15)
     exact Cq fun K8 hK8 => Cr (Za rfl (Ln (e_K (hK8 _ _ _ _ (cR (eI (by simp) (eT (by simp) (eI (by simp) (eT (by simp) (ret1 rfl rfl ⟨by rw [hR], E⟩))))))))))
    ·have hnx := all_succ hb ha (by simpa using h15)
     exact cK (eI (by simp) (eR (σ := Nat) (s := p) (p + 1) ⟨rfl, rfl, rfl, trivial⟩ ⟨by omega, hnx, IT, E⟩ (by omega)))
   ·cases h10
  ·obtain ⟨c, m, hdec, hc128, hc1, hc2⟩ := dec_ge hb (by omega)
   refine Cr (s_next rfl IT hplt (hdec) rfl fun w5 IT2 EN hzN => ?_)
   replace E := E.trans' EN (fun x hx => .inr (by simp at hx; subst hx; exact Lgi))
   clear IT
   have IT := IT2
   refine Sv (o_ext rfl rfl) (Ln (e_K (hK4 _ _ _ _ (Cq fun K9 hK9 => ?_))))
   refine c_cond rfl (fun h10 => ?_) (fun h10 => ?_)
   ·skip
    refine cK (e_K (hK9 _ _ _ _ (cB (Cq fun K10 hK10 => Cr (tW 2 rfl (Ln (e_K (hK10 _ _ _ _ (Cq fun K11 hK11 => Cr (tW 2 rfl (sc (o_callv he rfl rfl) (hk _ c (by omega) (by omega)) rfl fun v_ w6 h_ => ?_)))))))))))
    obtain ⟨rfl, E_⟩ := h_
    replace IT := IT.mod0 E_
    replace E := E.then E_
    refine Sv (o_not rfl) (Ln (e_K (hK11 _ _ _ _ ?_)))
    refine c_cond rfl (fun h15 => ?_) (fun h15 => ?_)
    ·have hR : allB q s = false := allB_no hb (bF fun h => by have := hq _ h; omega)
     exact Cq fun K12 hK12 => Cr (Za rfl (Ln (e_K (hK12 _ _ _ _ (cR (eI (by simp) (eT (by simp) (eI (by simp) (eT (by simp) (ret1 rfl rfl ⟨by rw [hR], E⟩))))))))))
    ·exact absurd (hq c (by simpa using h15)) (by omega)
   ·cases h10
 ·have hs_end := hplt
  have hR := allB_yes (q := q) (by omega) ha
  refine Cr (s_next_end rfl IT hs_end rfl (Sv (o_ext rfl rfl) (Ln (e_K (hK4 _ _ _ _ (Cq fun K13 hK13 => ?_))))))
  refine c_cond rfl (fun h10 => ?_) (fun h10 => ?_)
  ·cases h10
  ·skip
   exact c_exit (eT (by simp) (eT (by simp) (e_hit (e_K (hK2 _ _ _ _ (Cq fun K14 hK14 => Cr (Zm rfl (Sv (o_sne rfl rfl) (Za rfl (Ln (e_K (hK14 _ _ _ _ (cR (ret1 rfl rfl ⟨by rw [hR], E⟩))))))))))))))
end Go.Proofs.YtknndpjacklkeaaGreatDoor.V

set_option linter.unusedVariables false
set_option linter.unusedSimpArgs false
namespace Go.Proofs.YtknndpjacklkeaaGreatDoor.V
open Go
theorem cut_colon' (s : Str) : Lib.cut s [58] = (s.take (colonAt s), s.drop (colonAt s + 1), decide (colonAt s < s.length)) := by
 rw [cut_colon]
 have := colon_le s
 by_cases h : colonAt s < s.length
 ·rw [if_pos h, decide_eq_true h]
 ·rw [if_neg h, decide_eq_false h, List.take_of_length_le (by omega), List.drop_eq_nil_of_le (by omega)]
theorem server_e1 (s : Str) : decide (colonAt s = s.length) = !decide (colonAt s < s.length) := by
 have := colon_le s
 by_cases h : colonAt s < s.length
 ·rw [decide_eq_true h, decide_eq_false (by omega)]; rfl
 ·rw [decide_eq_false h, decide_eq_true (by omega)]; rfl
theorem server_e2 (s : Str) : decide (s.length - colonAt s ≤ 6) = decide (((s.drop (colonAt s + 1)).length : Int) ≤ 5) := by
 rw [List.length_drop, decide_eq_decide]
 omega
theorem len_e3 (s : Str) : decide (s.length ≤ 255) = decide ((s.length : Int) ≤ 255) := by
 rw [decide_eq_decide]
 omega
def partG (sign : UInt8) (s : Str) : Bool := decide (s.head? = some sign) && decide ((s.length : Int) ≤ 255)
theorem namedB_eq {sign : UInt8} (h58 : sign ≠ 58) (q : Nat → Bool) (s : Str) :
  namedB sign q s = (partG sign s && decide (colonAt (s.drop 1) < (s.drop 1).length) && serverB ((s.drop 1).drop (colonAt (s.drop 1) + 1)) && allB q ((s.drop 1).take (colonAt (s.drop 1)))) := by
 cases s with
 | nil => simp [namedB, partG]
 | cons b r =>
  by_cases hb : b = sign
  ·subst hb
   have hc : colonAt (b :: r) = colonAt r + 1 := by
    have : (b == 58) = false := by simpa using h58
    simp [colonAt, List.findIdx_cons, this]
   simp only [namedB, partG, hc, List.drop_succ_cons, List.drop_zero, List.length_cons, List.head?_cons, List.take_succ_cons, decide_true]
   rw [show decide (r.length + 1 ≤ 255) = decide (((r.length + 1 : Nat) : Int) ≤ 255) by rw [decide_eq_decide]; omega, show decide (colonAt r + 1 < r.length + 1) = decide (colonAt r < r.length) by rw [decide_eq_decide]; omega]
   generalize decide (((r.length + 1 : Nat) : Int) ≤ 255) = a1
   generalize decide (colonAt r < r.length) = a2
   generalize allB q (r.take (colonAt r)) = a3
   generalize serverB (r.drop (colonAt r + 1)) = a4
   cases a1 <;> cases a2 <;> cases a3 <;> cases a4 <;> rfl
  ·have : decide ((b :: r).head? = some sign) = false := by simp [hb]
   rw [namedB, partG, this]
   simp
theorem named_pos {sign : UInt8} {s : Str} (h58 : sign ≠ 58) (hh : s.head? = some sign) : 0 < colonAt s := by
 cases s with
 | nil => cases hh
 | cons b r =>
  obtain rfl : b = sign := by simpa using hh
  have : (b == 58) = false := by simpa using h58
  simp [colonAt, List.findIdx_cons, this]
theorem hasP_take (s p : Str) : Lib.hasPrefix s p = decide (s.take p.length = p) := by
 unfold Lib.hasPrefix
 rw [Bool.eq_iff_iff]
 simp only [decide_eq_true_eq, List.isPrefixOf_iff_prefix]
 rw [List.prefix_iff_eq_take]
 exact eq_comm
theorem keyB_eq (s : Str) : keyB s = (Lib.hasPrefix s edS && decide ((s.length : Int) ≤ 255) && allB qKey (Lib.trimPrefix s edS)) := by
 have h8 : edS.length = 8 := rfl
 unfold keyB Lib.trimPrefix
 rw [hasP_take, h8, len_e3]
 by_cases h : s.take 8 = edS
 ·rw [decide_eq_true h, if_pos rfl]
  generalize decide ((s.length : Int) ≤ 255) = a1
  generalize allB qKey (s.drop 8) = a2
  cases a1 <;> cases a2 <;> rfl
 ·rw [decide_eq_false h]
  simp
/-! ### the document's kinds -/
def okK1 (c : Nat) (k : UInt8) : Bool := (decide ((k.toNat : Int) = 97) && decide ((c : Int) ≥ 97) && decide ((c : Int) ≤ 122)) || (decide ((k.toNat : Int) = 65) && decide ((c : Int) ≥ 65) && decide ((c : Int) ≤ 90)) || (decide ((k.toNat : Int) = 48) && decide ((c : Int) ≥ 48) && decide ((c : Int) ≤ 57))
def okQ (kinds signs : Str) (c : Nat) : Bool := kinds.any (okK1 c) || signs.any (fun g => decide ((g.toNat : Int) = (c : Int)))
theorem any_succ' {α : Type} {l : List α} {j : Nat} {x : α} (f : α → Bool) (h : l[j]? = some x) : (l.take (j + 1)).any f = ((l.take j).any f || f x) := by
 have hlt := (List.getElem?_eq_some_iff.1 h).1
 rw [List.take_succ_eq_append_getElem hlt, (List.getElem?_eq_some_iff.1 h).2, List.any_append]
 simp
theorem u8_all {q r : Nat → Bool} (h : ∀ i : Fin 256, q i.val = r i.val) (b : UInt8) : q b.toNat = r b.toNat := h ⟨b.toNat, b.toNat_lt⟩
theorem q_server (b : UInt8) : qServer b.toNat = okQ [97, 48] [46, 45] b.toNat := u8_all (by decide +kernel) b
theorem q_user (b : UInt8) : qUser b.toNat = okQ [97, 48] userS b.toNat := u8_all (by decide +kernel) b
theorem q_room (b : UInt8) : qRoom b.toNat = okQ [97, 65, 48] [95, 45] b.toNat := u8_all (by decide +kernel) b
theorem q_key (b : UInt8) : qKey b.toNat = okQ [97, 65, 48] [95] b.toNat := u8_all (by decide +kernel) b
theorem q_digit (b : UInt8) : kD b.toNat = okQ [48] [] b.toNat := u8_all (by decide +kernel) b
theorem colon_at {s : Str} {i : Nat} {b : UInt8} (h : s[i]? = some b) (ha : ∀ j b, j < i → s[j]? = some b → b ≠ 58) (hb : b = 58) : colonAt s = i := by
 have hlt := (List.getElem?_eq_some_iff.1 h).1
 unfold colonAt
 rw [List.findIdx_eq hlt]
 refine ⟨by rw [(List.getElem?_eq_some_iff.1 h).2]; simpa using hb, fun j hj => ?_⟩
 have := ha j _ hj (List.getElem?_eq_getElem (by omega))
 simpa using this
theorem colon_none {s : Str} (ha : ∀ j b, j < s.length → s[j]? = some b → b ≠ 58) : colonAt s = s.length := by
 have := colon_le s
 rcases Nat.lt_or_ge (colonAt s) s.length with h | h
 ·exfalso
  have h1 : (s[colonAt s] == 58) = true := List.findIdx_getElem (p := fun b => b == 58) (w := h)
  exact ha _ _ h (List.getElem?_eq_getElem h) (by simpa using h1)
 ·omega
end Go.Proofs.YtknndpjacklkeaaGreatDoor.V

set_option linter.unusedVariables false
set_option linter.unusedSimpArgs false
set_option maxRecDepth 10000
namespace Go.Proofs.YtknndpjacklkeaaGreatDoor.V
open Go Go.Proofs
theorem ent193 : Ent Tryz.prog 193 := Ent.of Tryz.func193 (by kernel_rfl) (by kernel_rfl)
theorem ent192 : Ent Tryz.prog 192 := Ent.of Tryz.func192 (by kernel_rfl) (by kernel_rfl)
theorem ent159 : Ent Tryz.prog 159 := Ent.of Tryz.func159 (by kernel_rfl) (by kernel_rfl)
theorem ent164 : Ent Tryz.prog 164 := Ent.of Tryz.func164 (by kernel_rfl) (by kernel_rfl)
theorem ent157 : Ent Tryz.prog 157 := Ent.of Tryz.func157 (by kernel_rfl) (by kernel_rfl)
theorem ent158 : Ent Tryz.prog 158 := Ent.of Tryz.func158 (by kernel_rfl) (by kernel_rfl)
theorem ent160 : Ent Tryz.prog 160 := Ent.of Tryz.func160 (by kernel_rfl) (by kernel_rfl)
theorem ent197 : Ent Tryz.prog 197 := Ent.of Tryz.func197 (by kernel_rfl) (by kernel_rfl)
theorem ent196 : Ent Tryz.prog 196 := Ent.of Tryz.func196 (by kernel_rfl) (by kernel_rfl)
theorem c_cut' (w : World) (s : Str) (hs : s.length < 4294967281) (hM : MaxL w) : Calls Tryz.prog 192 [S s, S [58]].toArray w (Ret fun u w' => u = .tuple #[S (s.take (colonAt s)), S (s.drop (colonAt s + 1)), .bool (decide (colonAt s < s.length))] ∧ Mod [] w w') := by
 have := c_cut w s hs hM
 rw [cut_colon'] at this
 exact this

theorem c_server (w : World) (s : Str) (hs : s.length < 4294967281) (hM : MaxL w) : Calls Tryz.prog 158 [S s].toArray w (Ret fun u w' => u = .bool (serverB s) ∧ Mod [] w w') := by
 refine enter Tryz.func158 rfl rfl rfl (l := [(0, _)]) ⟨rfl, trivial⟩ ?_
 have E := Mod.refl [] w
 refine Cq fun K1 hK1 => Cr (Za rfl (Ln (e_K (hK1 _ _ _ _ (Cq fun K2 hK2 => Cr (Zm rfl (sc (oC ent192 rfl) (c_cut' _ s hs (hM.mod0 E)) rfl fun v_ w1 h_ => ?_)))))))
 obtain ⟨rfl, E_⟩ := h_
 replace E := E.then E_
 refine tW 7 rfl (Ln (e_K (hK2 _ _ _ _ (Cq fun K3 hK3 => Cr (Zm rfl (sc (oC ent159 rfl) (c_all _ (s.take (colonAt s)) 193 qServer ent193 (fun w c h1 h2 => c_kServer w c h1 h2) qServer_lt) rfl fun v_ w2 h_ => ?_))))))
 obtain ⟨rfl, E_⟩ := h_
 replace E := E.then E_
 refine Za rfl (Ln (e_K (hK3 _ _ _ _ (Cq fun K4 hK4 => Cr (Zm rfl ?_)))))
 refine bB (fun hk0 : (allB qServer (s.take (colonAt s))) = true => ?_) (fun hk0 => ?_)
 ·refine tW 2 rfl (Sg rfl rfl (o_slen Tryz.underlying9 rfl) (Sg rfl rfl (o_leq rfl rfl) ?_))
  refine bD (fun hk1 : (s.length : Int) ≤ 255 => ?_) (fun hk1 => ?_)
  ·refine tW 4 rfl ?_
   refine bB (fun hk2 : (!decide (colonAt s < s.length)) = true => ?_) (fun hk2 => ?_)
   ·exact tW 11 rfl (Ln (e_K (hK4 _ _ _ _ (cR (ret1 rfl rfl ⟨congrArg Value.bool (by rw [serverB, server_e1, server_e2, len_e3]; simp only [hk0, dT hk1, hk2, Bool.true_and, Bool.and_true, Bool.false_and, Bool.and_false, Bool.true_or, Bool.or_true, Bool.false_or, Bool.or_false, Bool.not_true, Bool.not_false]), E⟩)))))
   ·refine tW 2 rfl (Sg rfl rfl (o_slen Tryz.underlying9 rfl) (Sg rfl rfl (o_leq rfl rfl) ?_))
    refine bD (fun hk3 : ((s.drop (colonAt s + 1)).length : Int) ≤ 5 => ?_) (fun hk3 => ?_)
    ·refine tW 2 rfl (sgc rfl rfl (oC ent159 rfl) (c_all _ (s.drop (colonAt s + 1)) 163 kD ent163 (fun w c h1 h2 => c_digit w c) kD_lt) rfl fun v_ w3 h_ => ?_)
     obtain ⟨rfl, E_⟩ := h_
     replace E := E.then E_
     refine bB (fun hk4 : (allB kD (s.drop (colonAt s + 1))) = true => ?_) (fun hk4 => ?_)
     ·exact tW 4 rfl (Ln (e_K (hK4 _ _ _ _ (cR (ret1 rfl rfl ⟨congrArg Value.bool (by rw [serverB, server_e1, server_e2, len_e3]; simp only [hk0, dT hk1, bF hk2, dT hk3, hk4, Bool.true_and, Bool.and_true, Bool.false_and, Bool.and_false, Bool.true_or, Bool.or_true, Bool.false_or, Bool.or_false, Bool.not_true, Bool.not_false]), E⟩)))))
     ·exact tW 4 rfl (Ln (e_K (hK4 _ _ _ _ (cR (ret1 rfl rfl ⟨congrArg Value.bool (by rw [serverB, server_e1, server_e2, len_e3]; simp only [hk0, dT hk1, bF hk2, dT hk3, bF hk4, Bool.true_and, Bool.and_true, Bool.false_and, Bool.and_false, Bool.true_or, Bool.or_true, Bool.false_or, Bool.or_false, Bool.not_true, Bool.not_false]), E⟩)))))
    ·exact tW 7 rfl (Ln (e_K (hK4 _ _ _ _ (cR (ret1 rfl rfl ⟨congrArg Value.bool (by rw [serverB, server_e1, server_e2, len_e3]; simp only [hk0, dT hk1, bF hk2, dF hk3, Bool.true_and, Bool.and_true, Bool.false_and, Bool.and_false, Bool.true_or, Bool.or_true, Bool.false_or, Bool.or_false, Bool.not_true, Bool.not_false]), E⟩)))))
  ·exact tW 15 rfl (Ln (e_K (hK4 _ _ _ _ (cR (ret1 rfl rfl ⟨congrArg Value.bool (by rw [serverB, server_e1, server_e2, len_e3]; simp only [hk0, dF hk1, Bool.true_and, Bool.and_true, Bool.false_and, Bool.and_false, Bool.true_or, Bool.or_true, Bool.false_or, Bool.or_false, Bool.not_true, Bool.not_false]), E⟩)))))
 ·exact tW 19 rfl (Ln (e_K (hK4 _ _ _ _ (cR (ret1 rfl rfl ⟨congrArg Value.bool (by rw [serverB, server_e1, server_e2, len_e3]; simp only [bF hk0, Bool.true_and, Bool.and_true, Bool.false_and, Bool.and_false, Bool.true_or, Bool.or_true, Bool.false_or, Bool.or_false, Bool.not_true, Bool.not_false]), E⟩)))))

theorem c_parts (w : World) (s : Str) (sign : UInt8) (hs : s.length < 4294967281) (hM : MaxL w) : Calls Tryz.prog 157 [S s, .int .u8 (sign.toNat : Int)].toArray w (Ret fun u w' => (∃ a b o, u = .tuple #[S a, S b, .bool o] ∧ o = (partG sign s && decide (colonAt (s.drop 1) < (s.drop 1).length)) ∧ (o = true → a = (s.drop 1).take (colonAt (s.drop 1)) ∧ b = (s.drop 1).drop (colonAt (s.drop 1) + 1))) ∧ Mod [] w w') := by
 refine enter Tryz.func157 rfl rfl rfl (l := [(0, _), (1, _)]) ⟨rfl, rfl, trivial⟩ ?_
 have E := Mod.refl [] w
 refine Cq fun K1 hK1 => Cr (tW 3 rfl (Ln (e_K (hK1 _ _ _ _ (Cq fun K2 hK2 => Cq fun K3 hK3 => Cr (Zm rfl (Sv (o_seq rfl rfl) ?_)))))))
 refine bD (fun hk0 : s = [] => ?_) (fun hk0 => ?_)
 ·refine tW 11 rfl (Ln (e_K (hK3 _ _ _ _ (c_true rfl ?_))))
  have hg : partG sign s = false := by subst hk0; rfl
  exact Cq fun K4 hK4 => Cr (tW 3 rfl (Ln (e_K (hK4 _ _ _ _ (cR (eT (by simp) (ret3 rfl rfl rfl rfl ⟨⟨[], [], false, rfl, by rw [hg]; rfl, fun h => by cases h⟩, E⟩)))))))
 ·obtain ⟨b0, r, rfl⟩ : ∃ b r, s = b :: r := List.exists_cons_of_ne_nil hk0
  refine tW 2 rfl (Sg rfl rfl (o_sidx Tryz.underlying9 rfl rfl (by omega) rfl) (tW 2 rfl ?_))
  refine bD (fun hk1 : (b0.toNat : Int) ≠ (sign.toNat : Int) => ?_) (fun hk1 => ?_)
  ·refine tW 6 rfl (Ln (e_K (hK3 _ _ _ _ (c_true rfl ?_))))
   have hbs : b0 ≠ sign := fun h => hk1 (by rw [h])
   have hg : partG sign (b0 :: r) = false := by simp [partG, hbs]
   exact Cq fun K5 hK5 => Cr (tW 3 rfl (Ln (e_K (hK5 _ _ _ _ (cR (eT (by simp) (ret3 rfl rfl rfl rfl ⟨⟨[], [], false, rfl, by rw [hg]; rfl, fun h => by cases h⟩, E⟩)))))))
  ·refine tW 3 rfl (Sg rfl rfl (o_slen Tryz.underlying9 rfl) (Sg rfl rfl (o_gtr rfl rfl) ?_))
   refine bD (fun hk2 : ((b0 :: r).length : Int) > 255 => ?_) (fun hk2 => ?_)
   ·refine Sv (oF rfl rfl rfl) (Ln (e_K (hK3 _ _ _ _ (c_true rfl ?_))))
    have hg : partG sign (b0 :: r) = false := by
     simp only [List.length_cons] at hk2
     simp [partG]
     omega
    exact Cq fun K6 hK6 => Cr (tW 3 rfl (Ln (e_K (hK6 _ _ _ _ (cR (eT (by simp) (ret3 rfl rfl rfl rfl ⟨⟨[], [], false, rfl, by rw [hg]; rfl, fun h => by cases h⟩, E⟩)))))))
   ·refine Sv (oF rfl rfl rfl) (Ln (e_K (hK3 _ _ _ _ (c_false rfl ?_))))
    have hbs : b0 = sign := u8_eq (Classical.not_not.1 hk1)
    have hg : partG sign (b0 :: r) = true := by
     simp only [List.length_cons] at hk2
     simp [partG, hbs]
     omega
    refine cK (e_K (hK2 _ _ _ _ (Cq fun K7 hK7 => Cr (Zm rfl (Sv (o_ssfrom (n := 1) Tryz.underlying9 rfl rfl (by simp)) (sc (oC ent192 rfl) (c_cut' _ ((b0 :: r).drop 1) (by simp at hs ⊢; omega) (hM.mod0 E)) rfl fun v_ w1 h_ => ?_))))))
    obtain ⟨rfl, E_⟩ := h_
    replace E := E.then E_
    exact tW 6 rfl (Ln (e_K (hK7 _ _ _ _ (cR (ret3 rfl rfl rfl rfl ⟨⟨_, _, _, rfl, by rw [hg, Bool.true_and], fun _ => ⟨rfl, rfl⟩⟩, E⟩)))))

theorem c_user (w : World) (s : Str) (hs : s.length < 4294967281) (hM : MaxL w) : Calls Tryz.prog 117 [S s].toArray w (Ret fun u w' => u = .bool (namedB 64 qUser s) ∧ Mod [] w w') := by
 refine enter Tryz.func117 rfl rfl rfl (l := [(0, _)]) ⟨rfl, trivial⟩ ?_
 have E := Mod.refl [] w
 refine Cq fun K1 hK1 => Cr (Za rfl (Ln (e_K (hK1 _ _ _ _ (Cq fun K2 hK2 => Cr (Zm rfl (sc (oC ent157 rfl) (c_parts _ s 64 hs (hM.mod0 E)) rfl fun v_ w1 h_ => ?_)))))))
 obtain ⟨⟨a, b, o, rfl, ho, hab⟩, E_⟩ := h_
 replace E := E.then E_
 refine tW 7 rfl (Ln (e_K (hK2 _ _ _ _ (Cq fun K3 hK3 => Cr (Zm rfl ?_)))))
 refine bB (fun hk0 : (o) = true => ?_) (fun hk0 => ?_)
 ·obtain ⟨ha_, hb_⟩ := hab hk0
  subst ha_
  subst hb_
  refine tW 2 rfl (sgc rfl rfl (oC ent158 rfl) (c_server _ ((s.drop 1).drop (colonAt (s.drop 1) + 1)) (by simp only [List.length_drop]; omega) (hM.mod0 E)) rfl fun v_ w2 h_ => ?_)
  obtain ⟨rfl, E_⟩ := h_
  replace E := E.then E_
  refine bB (fun hk1 : (serverB ((s.drop 1).drop (colonAt (s.drop 1) + 1))) = true => ?_) (fun hk1 => ?_)
  ·refine tW 3 rfl (sgc rfl rfl (oC ent159 rfl) (c_all _ ((s.drop 1).take (colonAt (s.drop 1))) 164 qUser ent164 (fun w c h1 h2 => c_kUser w c h1 h2) qUser_lt) rfl fun v_ w3 h_ => ?_)
   obtain ⟨rfl, E_⟩ := h_
   replace E := E.then E_
   refine bB (fun hk2 : (allB qUser ((s.drop 1).take (colonAt (s.drop 1)))) = true => ?_) (fun hk2 => ?_)
   ·exact tW 2 rfl (Ln (e_K (hK3 _ _ _ _ (cR (ret1 rfl rfl ⟨congrArg Value.bool (by rw [namedB_eq (by decide), ← ho]; simp only [hk0, hk1, hk2, Bool.true_and, Bool.and_true, Bool.false_and, Bool.and_false, Bool.true_or, Bool.or_true, Bool.false_or, Bool.or_false, Bool.not_true, Bool.not_false]), E⟩)))))
   ·exact tW 2 rfl (Ln (e_K (hK3 _ _ _ _ (cR (ret1 rfl rfl ⟨congrArg Value.bool (by rw [namedB_eq (by decide), ← ho]; simp only [hk0, hk1, bF hk2, Bool.true_and, Bool.and_true, Bool.false_and, Bool.and_false, Bool.true_or, Bool.or_true, Bool.false_or, Bool.or_false, Bool.not_true, Bool.not_false]), E⟩)))))
  ·exact tW 6 rfl (Ln (e_K (hK3 _ _ _ _ (cR (ret1 rfl rfl ⟨congrArg Value.bool (by rw [namedB_eq (by decide), ← ho]; simp only [hk0, bF hk1, Bool.true_and, Bool.and_true, Bool.false_and, Bool.and_false, Bool.true_or, Bool.or_true, Bool.false_or, Bool.or_false, Bool.not_true, Bool.not_false]), E⟩)))))
 ·exact tW 9 rfl (Ln (e_K (hK3 _ _ _ _ (cR (ret1 rfl rfl ⟨congrArg Value.bool (by rw [namedB_eq (by decide), ← ho]; simp only [bF hk0, Bool.true_and, Bool.and_true, Bool.false_and, Bool.and_false, Bool.true_or, Bool.or_true, Bool.false_or, Bool.or_false, Bool.not_true, Bool.not_false]), E⟩)))))

theorem c_room (w : World) (s : Str) (hs : s.length < 4294967281) (hM : MaxL w) : Calls Tryz.prog 116 [S s].toArray w (Ret fun u w' => u = .bool (namedB 33 qRoom s) ∧ Mod [] w w') := by
 refine enter Tryz.func116 rfl rfl rfl (l := [(0, _)]) ⟨rfl, trivial⟩ ?_
 have E := Mod.refl [] w
 refine Cq fun K1 hK1 => Cr (Za rfl (Ln (e_K (hK1 _ _ _ _ (Cq fun K2 hK2 => Cr (Zm rfl (sc (oC ent157 rfl) (c_parts _ s 33 hs (hM.mod0 E)) rfl fun v_ w1 h_ => ?_)))))))
 obtain ⟨⟨a, b, o, rfl, ho, hab⟩, E_⟩ := h_
 replace E := E.then E_
 refine tW 7 rfl (Ln (e_K (hK2 _ _ _ _ (Cq fun K3 hK3 => Cr (Zm rfl ?_)))))
 refine bB (fun hk0 : (o) = true => ?_) (fun hk0 => ?_)
 ·obtain ⟨ha_, hb_⟩ := hab hk0
  subst ha_
  subst hb_
  refine tW 2 rfl (sgc rfl rfl (oC ent158 rfl) (c_server _ ((s.drop 1).drop (colonAt (s.drop 1) + 1)) (by simp only [List.length_drop]; omega) (hM.mod0 E)) rfl fun v_ w2 h_ => ?_)
  obtain ⟨rfl, E_⟩ := h_
  replace E := E.then E_
  refine bB (fun hk1 : (serverB ((s.drop 1).drop (colonAt (s.drop 1) + 1))) = true => ?_) (fun hk1 => ?_)
  ·refine tW 3 rfl (sgc rfl rfl (oC ent159 rfl) (c_all _ ((s.drop 1).take (colonAt (s.drop 1))) 160 qRoom ent160 (fun w c h1 h2 => c_kRoom w c h1 h2) qRoom_lt) rfl fun v_ w3 h_ => ?_)
   obtain ⟨rfl, E_⟩ := h_
   replace E := E.then E_
   refine bB (fun hk2 : (allB qRoom ((s.drop 1).take (colonAt (s.drop 1)))) = true => ?_) (fun hk2 => ?_)
   ·exact tW 2 rfl (Ln (e_K (hK3 _ _ _ _ (cR (ret1 rfl rfl ⟨congrArg Value.bool (by rw [namedB_eq (by decide), ← ho]; simp only [hk0, hk1, hk2, Bool.true_and, Bool.and_true, Bool.false_and, Bool.and_false, Bool.true_or, Bool.or_true, Bool.false_or, Bool.or_false, Bool.not_true, Bool.not_false]), E⟩)))))
   ·exact tW 2 rfl (Ln (e_K (hK3 _ _ _ _ (cR (ret1 rfl rfl ⟨congrArg Value.bool (by rw [namedB_eq (by decide), ← ho]; simp only [hk0, hk1, bF hk2, Bool.true_and, Bool.and_true, Bool.false_and, Bool.and_false, Bool.true_or, Bool.or_true, Bool.false_or, Bool.or_false, Bool.not_true, Bool.not_false]), E⟩)))))
  ·exact tW 6 rfl (Ln (e_K (hK3 _ _ _ _ (cR (ret1 rfl rfl ⟨congrArg Value.bool (by rw [namedB_eq (by decide), ← ho]; simp only [hk0, bF hk1, Bool.true_and, Bool.and_true, Bool.false_and, Bool.and_false, Bool.true_or, Bool.or_true, Bool.false_or, Bool.or_false, Bool.not_true, Bool.not_false]), E⟩)))))
 ·exact tW 9 rfl (Ln (e_K (hK3 _ _ _ _ (cR (ret1 rfl rfl ⟨congrArg Value.bool (by rw [namedB_eq (by decide), ← ho]; simp only [bF hk0, Bool.true_and, Bool.and_true, Bool.false_and, Bool.and_false, Bool.true_or, Bool.or_true, Bool.false_or, Bool.or_false, Bool.not_true, Bool.not_false]), E⟩)))))

theorem c_key (w : World) (s : Str) : Calls Tryz.prog 168 [S s].toArray w (Ret fun u w' => u = .bool (keyB s) ∧ Mod [] w w') := by
 refine enter Tryz.func168 rfl rfl rfl (l := [(0, _)]) ⟨rfl, trivial⟩ ?_
 have E := Mod.refl [] w
 refine Cq fun K1 hK1 => Cr (Za rfl (Ln (e_K (hK1 _ _ _ _ (Cq fun K2 hK2 => Cr (Zm rfl (sc (oC ent196 rfl) (c_cutp _ s edS) rfl fun v_ w1 h_ => ?_)))))))
 obtain ⟨rfl, E_⟩ := h_
 replace E := E.then E_
 refine tW 5 rfl (Ln (e_K (hK2 _ _ _ _ (Cq fun K3 hK3 => Cr (Zm rfl ?_)))))
 refine bB (fun hk0 : (Lib.hasPrefix s edS) = true => ?_) (fun hk0 => ?_)
 ·refine tW 2 rfl (Sg rfl rfl (o_slen Tryz.underlying9 rfl) (Sg rfl rfl (o_leq rfl rfl) ?_))
  refine bD (fun hk1 : (s.length : Int) ≤ 255 => ?_) (fun hk1 => ?_)
  ·refine tW 3 rfl (sgc rfl rfl (oC ent159 rfl) (c_all _ (Lib.trimPrefix s edS) 197 qKey ent197 (fun w c h1 h2 => c_kKey w c h1 h2) qKey_lt) rfl fun v_ w2 h_ => ?_)
   obtain ⟨rfl, E_⟩ := h_
   replace E := E.then E_
   refine bB (fun hk2 : (allB qKey (Lib.trimPrefix s edS)) = true => ?_) (fun hk2 => ?_)
   ·exact tW 2 rfl (Ln (e_K (hK3 _ _ _ _ (cR (ret1 rfl rfl ⟨congrArg Value.bool (by rw [keyB_eq]; simp only [hk0, dT hk1, hk2, Bool.true_and, Bool.and_true, Bool.false_and, Bool.and_false, Bool.true_or, Bool.or_true, Bool.false_or, Bool.or_false, Bool.not_true, Bool.not_false]), E⟩)))))
   ·exact tW 2 rfl (Ln (e_K (hK3 _ _ _ _ (cR (ret1 rfl rfl ⟨congrArg Value.bool (by rw [keyB_eq]; simp only [hk0, dT hk1, bF hk2, Bool.true_and, Bool.and_true, Bool.false_and, Bool.and_false, Bool.true_or, Bool.or_true, Bool.false_or, Bool.or_false, Bool.not_true, Bool.not_false]), E⟩)))))
  ·exact tW 6 rfl (Ln (e_K (hK3 _ _ _ _ (cR (ret1 rfl rfl ⟨congrArg Value.bool (by rw [keyB_eq]; simp only [hk0, dF hk1, Bool.true_and, Bool.and_true, Bool.false_and, Bool.and_false, Bool.true_or, Bool.or_true, Bool.false_or, Bool.or_false, Bool.not_true, Bool.not_false]), E⟩)))))
 ·exact tW 10 rfl (Ln (e_K (hK3 _ _ _ _ (cR (ret1 rfl rfl ⟨congrArg Value.bool (by rw [keyB_eq]; simp only [bF hk0, Bool.true_and, Bool.and_true, Bool.false_and, Bool.and_false, Bool.true_or, Bool.or_true, Bool.false_or, Bool.or_false, Bool.not_true, Bool.not_false]), E⟩)))))
end Go.Proofs.YtknndpjacklkeaaGreatDoor.V

set_option linter.unusedVariables false
set_option linter.unusedSimpArgs false
namespace Go.Proofs.YtknndpjacklkeaaGreatDoor.V
open Go
section
variable {P : Program} {l : List (Nat × Value)} {w : World} {ty : TypeId} {pos : String} {af : Array Edge} {dd : Option Nat} {gg : Option (Nat × Bool)} {x y z hi : Operand} {t : TypeId}
theorem o_ssmid {u : List UInt8} {m n : Nat} (ht : P.underlying t = some .string) (hx : evO l x = some (S u)) (hl : evO l y = some (.int .i64 (m : Int))) (hh : evO l hi = some (.int .i64 (n : Int))) (hb : m ≤ n ∧ n ≤ u.length) : Runs P l ⟨dd, .slice t x (some y) (some hi) none, ty, pos, af, gg⟩ w (S ((u.take n).drop m)) w :=
 (o_ssl (pl := some (.i64, (m : Int))) (ph := some (.i64, (n : Int))) ht hx (by simp [evS, hl]) (by simp [evS, hh]) (by simp only [loV, hiV]; omega)).to (by
  simp only [loV, hiV, Int.toNat_natCast]
  rw [List.drop_take])
end
theorem server_i1 (s : Str) : decide (colonAt s = s.length) = decide ((colonAt s : Int) = (s.length : Int)) := by rw [decide_eq_decide]; omega
theorem server_i2 (s : Str) : decide (s.length - colonAt s ≤ 6) = decide (((s.length - colonAt s : Nat) : Int) ≤ 6) := by rw [decide_eq_decide]; omega
theorem named_form (sign : UInt8) (q : Nat → Bool) (s : Str) : namedB sign q s = (decide ((s.length : Int) ≤ 255) && decide ((colonAt s : Int) < (s.length : Int)) && decide (s.head? = some sign) && allB q ((s.take (colonAt s)).drop 1) && serverB (s.drop (colonAt s + 1))) := by
 rw [namedB, len_e3, show decide (colonAt s < s.length) = decide ((colonAt s : Int) < (s.length : Int)) by rw [decide_eq_decide]; omega]
theorem head_dec {s : Str} {b0 sign : UInt8} (h : s[0]? = some b0) : decide (s.head? = some sign) = decide ((b0.toNat : Int) = (sign.toNat : Int)) := by
 rw [List.head?_eq_getElem?, h, decide_eq_decide]
 constructor
 ·intro e; injection e with e; rw [e]
 ·intro e; rw [u8_eq e]
theorem head_no {s : Str} {sign : UInt8} (h58 : sign ≠ 58) (h : ¬ (colonAt s : Int) > 0) : decide (s.head? = some sign) = false := by
 refine decide_eq_false fun e => ?_
 have := named_pos h58 e
 omega
end Go.Proofs.YtknndpjacklkeaaGreatDoor.V
