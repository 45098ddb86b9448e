/-
  A part of the proof: walks of functions. No condition of its own.
-/
import Derived.Test.YtknndpjacklkeaaGreatDoorM10
import Derived.Test.YtknndpjacklkeaaGreatDoorM4
set_option linter.unusedVariables false
set_option linter.unusedSimpArgs false
set_option maxRecDepth 10000
namespace Go.Proofs.YtknndpjacklkeaaGreatDoor.V
open Go Go.Proofs
theorem ent204 : Ent Tryz.prog 204 := Ent.of Tryz.func204 (by kernel_rfl) (by kernel_rfl)
theorem ent205 : Ent Tryz.prog 205 := Ent.of Tryz.func205 (by kernel_rfl) (by kernel_rfl)
set_option maxHeartbeats 2000000 in
theorem c_right (w : World) (s : Str) (hs : s.length ≤ 1000000) : Calls Tryz.prog 179 [S s].toArray w (Ret fun u w' => u = .bool (wholeA s).1 ∧ Mod [] w w') := by
 refine enter Tryz.func179 rfl rfl rfl (l := [(0, _)]) ⟨rfl, trivial⟩ ?_
 have E := Mod.refl [] w
 refine Cq fun K1 hK1 => Cr (Za rfl (Ln (e_K (hK1 _ _ _ _ (Cq fun K2 hK2 => Cr (Zm rfl (sc (oC ent204 rfl) (c_trimP _ s [45]) rfl fun v_ w1 h_ => ?_)))))))
 obtain ⟨rfl, E_⟩ := h_
 replace E := E.then E_
 obtain ⟨a, ha⟩ : ∃ a, a = if hasA s 0 [45] then 1 else 0 := ⟨_, rfl⟩
 have hal := has_len0 ha
 rw [trimA ha]
 obtain ⟨e, he⟩ : ∃ e, e = spanA isDg s a := ⟨_, rfl⟩
 have hgea := spanA_ge isDg s a
 have hlea : spanA isDg s a ≤ s.length := spanA_le (by omega)
 rw [← he] at hgea hlea
 refine Za rfl (Ln (e_K (hK2 _ _ _ _ (Cq fun K3 hK3 => Cr (Zm rfl (sc (oC ent205 rfl) (c_jdigits _ s a hs hal) rfl fun v_ w2 h_ => ?_))))))
 obtain ⟨rfl, E_⟩ := h_
 replace E := E.then E_
 rw [← he]
 refine tW 5 rfl (Ln (e_K (hK3 _ _ _ _ (Cq fun K4 hK4 => Cq fun K5 hK5 => Cr (tW 2 rfl ?_)))))
 refine bD (fun hz : ((e - a : Nat) : Int) = 0 => ?_) (fun hz => ?_)
 ·refine tW 9 rfl (Ln (e_K (hK5 _ _ _ _ (c_true rfl ?_))))
  have hb1 : e = a ∨ (a + 1 < e ∧ s[a]? = some 48) := by
   first | (left; omega) | (right; exact ⟨by omega, by rw [hd_, u8_eq (show (d.toNat : Int) = (48 : UInt8).toNat by rw [h48]; rfl)]⟩)
  exact Cq fun K6 hK6 => Cr (Za rfl (Ln (e_K (hK6 _ _ _ _ (cR (eT (by simp) (ret1 rfl rfl ⟨by rw [whole_bad1 ha he hb1], E⟩)))))))
 ·refine tW 3 rfl ?_
  refine bD (fun hgt : ((e - a : Nat) : Int) > 1 => ?_) (fun hgt => ?_)
  ·obtain ⟨d, hd_⟩ : ∃ x, s[a]? = some x := ⟨_, List.getElem?_eq_getElem (by omega)⟩
   refine tW 2 rfl ?_
   refine Sg rfl rfl ((o_sidx (c := d) Tryz.underlying9 rfl rfl (by decide) (by rw [show ((0 : Int)).toNat = 0 from rfl, List.getElem?_drop, Nat.add_zero]; exact hd_))) ?_
   refine Sg rfl rfl (oE rfl rfl) ?_
   refine bD (fun h48 : (d.toNat : Int) = 48 => ?_) (fun h48 => ?_)
   ·refine tW 2 rfl (Ln (e_K (hK5 _ _ _ _ (c_true rfl ?_))))
    have hb1 : e = a ∨ (a + 1 < e ∧ s[a]? = some 48) := by
     first | (left; omega) | (right; exact ⟨by omega, by rw [hd_, u8_eq (show (d.toNat : Int) = (48 : UInt8).toNat by rw [h48]; rfl)]⟩)
    exact Cq fun K7 hK7 => Cr (Za rfl (Ln (e_K (hK7 _ _ _ _ (cR (eT (by simp) (ret1 rfl rfl ⟨by rw [whole_bad1 ha he hb1], E⟩)))))))
   ·refine tW 2 rfl (Ln (e_K (hK5 _ _ _ _ (c_false rfl ?_))))
    have hb1 : ¬ (e = a ∨ (a + 1 < e ∧ s[a]? = some 48)) := by
     rintro (h | ⟨h, h'⟩)
     ·omega
     ·first | omega | (rw [hd_] at h'; injection h' with h'; subst h'; exact h48 rfl)
    refine cK (e_K (hK4 _ _ _ _ (Cq fun K8 hK8 => Cq fun K9 hK9 => Cr (Zm rfl (sc (oC ent196 rfl) (c_cutp _ (s.drop e) [46]) rfl fun v_ w3 h_ => ?_)))))
    obtain ⟨rfl, E_⟩ := h_
    replace E := E.then E_
    refine tW 5 rfl (Ln (e_K (hK9 _ _ _ _ (Cq fun K10 hK10 => Cr (Zm rfl (Ln (e_K (hK10 _ _ _ _ ?_))))))))
    refine c_cond rfl (fun h30 => ?_) (fun h30 => ?_)
    ·skip
     refine Cq fun K11 hK11 => ?_
     have hpe : Lib.trimPrefix (s.drop e) [46] = s.drop (e + 1) := by
      unfold Lib.trimPrefix
      rw [if_pos h30, List.drop_drop]
      rfl
     rw [hpe]
     have hel : e + 1 ≤ s.length := hasA_len (t := [46]) h30 (by simp)
     have hgek := spanA_ge isDg s (e + 1)
     have hlek : spanA isDg s (e + 1) ≤ s.length := spanA_le (by omega)
     refine Cr (Zm rfl (sc (oC ent205 rfl) (c_jdigits _ s (e + 1) hs hel) rfl fun v_ w4 h_ => ?_))
     obtain ⟨rfl, E_⟩ := h_
     replace E := E.then E_
     refine tW 5 rfl (Ln (e_K (hK11 _ _ _ _ (Cq fun K12 hK12 => Cr (tW 2 rfl (Ln (e_K (hK12 _ _ _ _ ?_))))))))
     refine c_if rfl (fun h37 => ?_) (fun h37 => ?_)
     ·have hk0 : spanA isDg s (e + 1) = e + 1 := by omega
      exact Cq fun K13 hK13 => Cr (Za rfl (Ln (e_K (hK13 _ _ _ _ (cR (eT (by simp) (ret1 rfl rfl ⟨by rw [whole_bad2 ha he hb1 h30 hk0], E⟩)))))))
     ·have hk1 : ¬ spanA isDg s (e + 1) = e + 1 := by omega
      have hl1 : spanA isDg s (e + 1) ≤ s.length := hlek
      have hme : hasA s e [46] = true := h30
      obtain ⟨e1, he1⟩ : ∃ e1, e1 = spanA isDg s (e + 1) := ⟨_, rfl⟩
      rw [← he1] at hk1 ⊢
      have h2 : ¬ (hasA s e [46] = true ∧ spanA isDg s (e + 1) = e + 1) := fun h => hk1 (by rw [he1]; omega)
      have he1' : e1 = if hasA s e [46] then spanA isDg s (e + 1) else e := by rw [if_pos hme]; exact he1
      refine cK (e_K (hK8 _ _ _ _ (Cq fun K14 hK14 => Cq fun K15 hK15 => Cr (Zm rfl (Sv (o_sne rfl rfl) ?_)))))
      refine bD (fun hn1 : s.drop (e1) ≠ [] => ?_) (fun hn1 => ?_)
      ·obtain ⟨x, hx_⟩ : ∃ x, s[e1]? = some x := ⟨_, List.getElem?_eq_getElem (by rw [Ne, drop_nil (by omega)] at hn1; omega)⟩
       refine tW 2 rfl ?_
       refine Sg rfl rfl ((o_sidx (c := x) Tryz.underlying9 rfl rfl (by decide) (by rw [show ((0 : Int)).toNat = 0 from rfl, List.getElem?_drop, Nat.add_zero]; exact hx_))) ?_
       refine Sg rfl rfl (o_or rfl rfl) (Sg rfl rfl (oE rfl rfl) ?_)
       by_cases hx : (x.toNat = 101 ∨ x.toNat = 69)
       ·refine bE (dT ((e_or32 x.toNat (UInt8.toNat_lt x)).2 hx)) (Sv (oT rfl rfl rfl) (Ln (e_K (hK15 _ _ _ _ (c_true rfl ?_)))))
        have hE : (hasA s e1 [101] || hasA s e1 [69]) = true := by
         rw [hasA_at hx_, hasA_at hx_]
         rcases hx with h | h
         ·rw [dT (u8_eq (by rw [h]; rfl))]; rfl
         ·rw [Bool.or_eq_true]; right; exact dT (u8_eq (by rw [h]; rfl))
        have he1l : e1 + 1 ≤ s.length := (List.getElem?_eq_some_iff.1 hx_).1
        refine Cq fun K16 hK16 => Cr (Zm rfl (Sv ((o_ssfrom (n := 1) Tryz.underlying9 rfl rfl (by rw [List.length_drop]; omega)).to (v' := S (s.drop (e1 + 1))) (by rw [List.drop_drop])) (Za rfl (Ln (e_K (hK16 _ _ _ _ (Cq fun K17 hK17 => Cq fun K18 hK18 => Cr (Zm rfl (Sv (o_sne rfl rfl) ?_)))))))))
        refine bD (fun hn2 : s.drop (e1 + 1) ≠ [] => ?_) (fun hn2 => ?_)
        ·obtain ⟨y, hy_⟩ : ∃ x, s[e1 + 1]? = some x := ⟨_, List.getElem?_eq_getElem (by rw [Ne, drop_nil (by omega)] at hn2; omega)⟩
         refine tW 2 rfl ?_
         refine Sg rfl rfl ((o_sidx (c := y) Tryz.underlying9 rfl rfl (by decide) (by rw [show ((0 : Int)).toNat = 0 from rfl, List.getElem?_drop, Nat.add_zero]; exact hy_))) ?_
         refine Sg rfl rfl (oE rfl rfl) ?_
         refine bD (fun hy1 : (y.toNat : Int) = 43 => ?_) (fun hy1 => ?_)
         ·refine tW 6 rfl (Ln (e_K (hK18 _ _ _ _ (c_true rfl ?_))))
          have hS : (hasA s (e1 + 1) [43] || hasA s (e1 + 1) [45]) = true := by
           rw [hasA_at hy_, hasA_at hy_, Bool.or_eq_true, decide_eq_true_eq, decide_eq_true_eq]
           first | (left; exact u8_eq (by rw [hy1]; rfl)) | (right; exact u8_eq (by rw [hy2]; rfl))
          have he2l : e1 + 2 ≤ s.length := (List.getElem?_eq_some_iff.1 hy_).1
          obtain ⟨e2, hee⟩ : ∃ e2, e2 = e1 + 2 := ⟨_, rfl⟩
          have he2 : e2 = if hasA s (e1 + 1) [43] || hasA s (e1 + 1) [45] then e1 + 2 else e1 + 1 := by rw [if_pos hS]; exact hee
          refine Cr (Zm rfl (Sv ((o_ssfrom (n := 1) Tryz.underlying9 rfl rfl (by rw [List.length_drop]; omega)).to (v' := S (s.drop (e1 + 2))) (by rw [List.drop_drop])) (Za rfl (Ln (e_K (hK17 _ _ _ _ (Cq fun K19 hK19 => ?_)))))))
          have hE2 : e2 ≤ s.length := by omega
          rw [← hee]
          have hgee2 := spanA_ge isDg s e2
          have hlee2 : spanA isDg s e2 ≤ s.length := spanA_le (by omega)
          refine Cr (Zm rfl (sc (oC ent205 rfl) (c_jdigits _ s e2 hs hE2) rfl fun v_ w5 h_ => ?_))
          obtain ⟨rfl, E_⟩ := h_
          replace E := E.then E_
          refine tW 5 rfl (Ln (e_K (hK19 _ _ _ _ (Cq fun K20 hK20 => Cr (tW 2 rfl (Ln (e_K (hK20 _ _ _ _ ?_))))))))
          refine c_if rfl (fun h68 => ?_) (fun h68 => ?_)
          ·have hk2 : spanA isDg s e2 = e2 := by omega
           exact Cq fun K21 hK21 => Cr (Za rfl (Ln (e_K (hK21 _ _ _ _ (cR (eT (by simp) (ret1 rfl rfl ⟨by rw [whole_bad3 ha he hb1 h2 he1' hE he2 hk2], E⟩)))))))
          ·have hk2 : ¬ spanA isDg s e2 = e2 := by omega
           exact cK (e_K (hK14 _ _ _ _ (Cq fun K22 hK22 => Cr (Zm rfl (Sv (o_seq rfl rfl) (Za rfl (Ln (e_K (hK22 _ _ _ _ (cR (ret1 rfl rfl ⟨by first | (rw [whole_exp ha he hb1 h2 he1' hE he2 hk2]; exact congrArg Value.bool (decide_eq_decide.2 (drop_nil (by omega)))) | (rw [whole_int ha he hb1 h2 he1' hE]; exact congrArg Value.bool (decide_eq_decide.2 (drop_nil (by omega)))), E⟩)))))))))))
         ·refine tW 2 rfl ?_
          refine Sg rfl rfl ((o_sidx (c := y) Tryz.underlying9 rfl rfl (by decide) (by rw [show ((0 : Int)).toNat = 0 from rfl, List.getElem?_drop, Nat.add_zero]; exact hy_))) ?_
          refine Sg rfl rfl (oE rfl rfl) ?_
          refine bD (fun hy2 : (y.toNat : Int) = 45 => ?_) (fun hy2 => ?_)
          ·refine tW 2 rfl (Ln (e_K (hK18 _ _ _ _ (c_true rfl ?_))))
           have hS : (hasA s (e1 + 1) [43] || hasA s (e1 + 1) [45]) = true := by
            rw [hasA_at hy_, hasA_at hy_, Bool.or_eq_true, decide_eq_true_eq, decide_eq_true_eq]
            first | (left; exact u8_eq (by rw [hy1]; rfl)) | (right; exact u8_eq (by rw [hy2]; rfl))
           have he2l : e1 + 2 ≤ s.length := (List.getElem?_eq_some_iff.1 hy_).1
           obtain ⟨e2, hee⟩ : ∃ e2, e2 = e1 + 2 := ⟨_, rfl⟩
           have he2 : e2 = if hasA s (e1 + 1) [43] || hasA s (e1 + 1) [45] then e1 + 2 else e1 + 1 := by rw [if_pos hS]; exact hee
           refine Cr (Zm rfl (Sv ((o_ssfrom (n := 1) Tryz.underlying9 rfl rfl (by rw [List.length_drop]; omega)).to (v' := S (s.drop (e1 + 2))) (by rw [List.drop_drop])) (Za rfl (Ln (e_K (hK17 _ _ _ _ (Cq fun K23 hK23 => ?_)))))))
           have hE2 : e2 ≤ s.length := by omega
           rw [← hee]
           have hgee2 := spanA_ge isDg s e2
           have hlee2 : spanA isDg s e2 ≤ s.length := spanA_le (by omega)
           refine Cr (Zm rfl (sc (oC ent205 rfl) (c_jdigits _ s e2 hs hE2) rfl fun v_ w6 h_ => ?_))
           obtain ⟨rfl, E_⟩ := h_
           replace E := E.then E_
           refine tW 5 rfl (Ln (e_K (hK23 _ _ _ _ (Cq fun K24 hK24 => Cr (tW 2 rfl (Ln (e_K (hK24 _ _ _ _ ?_))))))))
           refine c_if rfl (fun h68 => ?_) (fun h68 => ?_)
           ·have hk2 : spanA isDg s e2 = e2 := by omega
            exact Cq fun K25 hK25 => Cr (Za rfl (Ln (e_K (hK25 _ _ _ _ (cR (eT (by simp) (ret1 rfl rfl ⟨by rw [whole_bad3 ha he hb1 h2 he1' hE he2 hk2], E⟩)))))))
           ·have hk2 : ¬ spanA isDg s e2 = e2 := by omega
            exact cK (e_K (hK14 _ _ _ _ (Cq fun K26 hK26 => Cr (Zm rfl (Sv (o_seq rfl rfl) (Za rfl (Ln (e_K (hK26 _ _ _ _ (cR (ret1 rfl rfl ⟨by first | (rw [whole_exp ha he hb1 h2 he1' hE he2 hk2]; exact congrArg Value.bool (decide_eq_decide.2 (drop_nil (by omega)))) | (rw [whole_int ha he hb1 h2 he1' hE]; exact congrArg Value.bool (decide_eq_decide.2 (drop_nil (by omega)))), E⟩)))))))))))
          ·refine tW 2 rfl (Ln (e_K (hK18 _ _ _ _ (c_false rfl ?_))))
           have hS : (hasA s (e1 + 1) [43] || hasA s (e1 + 1) [45]) = false := by
            first | (rw [hasA_at hy_, hasA_at hy_, dF (fun h => hy1 (by rw [h]; rfl)), dF (fun h => hy2 (by rw [h]; rfl))]; rfl) | (rw [hasA_off (show s.length ≤ e1 + 1 by have := Classical.not_not.1 hn2; rw [drop_nil (by omega)] at this; omega) (by simp), hasA_off (show s.length ≤ e1 + 1 by have := Classical.not_not.1 hn2; rw [drop_nil (by omega)] at this; omega) (by simp)]; rfl)
           obtain ⟨e2, hee⟩ : ∃ e2, e2 = e1 + 1 := ⟨_, rfl⟩
           have he2 : e2 = if hasA s (e1 + 1) [43] || hasA s (e1 + 1) [45] then e1 + 2 else e1 + 1 := by rw [if_neg (by rw [hS]; simp)]; exact hee
           refine cK (e_K (hK17 _ _ _ _ (Cq fun K27 hK27 => ?_)))
           have hE2 : e2 ≤ s.length := by omega
           rw [← hee]
           have hgee2 := spanA_ge isDg s e2
           have hlee2 : spanA isDg s e2 ≤ s.length := spanA_le (by omega)
           refine Cr (Zm rfl (sc (oC ent205 rfl) (c_jdigits _ s e2 hs hE2) rfl fun v_ w7 h_ => ?_))
           obtain ⟨rfl, E_⟩ := h_
           replace E := E.then E_
           refine tW 5 rfl (Ln (e_K (hK27 _ _ _ _ (Cq fun K28 hK28 => Cr (tW 2 rfl (Ln (e_K (hK28 _ _ _ _ ?_))))))))
           refine c_if rfl (fun h68 => ?_) (fun h68 => ?_)
           ·have hk2 : spanA isDg s e2 = e2 := by omega
            exact Cq fun K29 hK29 => Cr (Za rfl (Ln (e_K (hK29 _ _ _ _ (cR (eT (by simp) (ret1 rfl rfl ⟨by rw [whole_bad3 ha he hb1 h2 he1' hE he2 hk2], E⟩)))))))
           ·have hk2 : ¬ spanA isDg s e2 = e2 := by omega
            exact cK (e_K (hK14 _ _ _ _ (Cq fun K30 hK30 => Cr (Zm rfl (Sv (o_seq rfl rfl) (Za rfl (Ln (e_K (hK30 _ _ _ _ (cR (ret1 rfl rfl ⟨by first | (rw [whole_exp ha he hb1 h2 he1' hE he2 hk2]; exact congrArg Value.bool (decide_eq_decide.2 (drop_nil (by omega)))) | (rw [whole_int ha he hb1 h2 he1' hE]; exact congrArg Value.bool (decide_eq_decide.2 (drop_nil (by omega)))), E⟩)))))))))))
        ·refine tW 10 rfl (Ln (e_K (hK18 _ _ _ _ (c_false rfl ?_))))
         have hS : (hasA s (e1 + 1) [43] || hasA s (e1 + 1) [45]) = false := by
          first | (rw [hasA_at hy_, hasA_at hy_, dF (fun h => hy1 (by rw [h]; rfl)), dF (fun h => hy2 (by rw [h]; rfl))]; rfl) | (rw [hasA_off (show s.length ≤ e1 + 1 by have := Classical.not_not.1 hn2; rw [drop_nil (by omega)] at this; omega) (by simp), hasA_off (show s.length ≤ e1 + 1 by have := Classical.not_not.1 hn2; rw [drop_nil (by omega)] at this; omega) (by simp)]; rfl)
         obtain ⟨e2, hee⟩ : ∃ e2, e2 = e1 + 1 := ⟨_, rfl⟩
         have he2 : e2 = if hasA s (e1 + 1) [43] || hasA s (e1 + 1) [45] then e1 + 2 else e1 + 1 := by rw [if_neg (by rw [hS]; simp)]; exact hee
         refine cK (e_K (hK17 _ _ _ _ (Cq fun K31 hK31 => ?_)))
         have hE2 : e2 ≤ s.length := by omega
         rw [← hee]
         have hgee2 := spanA_ge isDg s e2
         have hlee2 : spanA isDg s e2 ≤ s.length := spanA_le (by omega)
         refine Cr (Zm rfl (sc (oC ent205 rfl) (c_jdigits _ s e2 hs hE2) rfl fun v_ w8 h_ => ?_))
         obtain ⟨rfl, E_⟩ := h_
         replace E := E.then E_
         refine tW 5 rfl (Ln (e_K (hK31 _ _ _ _ (Cq fun K32 hK32 => Cr (tW 2 rfl (Ln (e_K (hK32 _ _ _ _ ?_))))))))
         refine c_if rfl (fun h68 => ?_) (fun h68 => ?_)
         ·have hk2 : spanA isDg s e2 = e2 := by omega
          exact Cq fun K33 hK33 => Cr (Za rfl (Ln (e_K (hK33 _ _ _ _ (cR (eT (by simp) (ret1 rfl rfl ⟨by rw [whole_bad3 ha he hb1 h2 he1' hE he2 hk2], E⟩)))))))
         ·have hk2 : ¬ spanA isDg s e2 = e2 := by omega
          exact cK (e_K (hK14 _ _ _ _ (Cq fun K34 hK34 => Cr (Zm rfl (Sv (o_seq rfl rfl) (Za rfl (Ln (e_K (hK34 _ _ _ _ (cR (ret1 rfl rfl ⟨by first | (rw [whole_exp ha he hb1 h2 he1' hE he2 hk2]; exact congrArg Value.bool (decide_eq_decide.2 (drop_nil (by omega)))) | (rw [whole_int ha he hb1 h2 he1' hE]; exact congrArg Value.bool (decide_eq_decide.2 (drop_nil (by omega)))), E⟩)))))))))))
       ·refine bE (dF (fun h => hx ((e_or32 x.toNat (UInt8.toNat_lt x)).1 h))) (Sv (oT rfl rfl rfl) (Ln (e_K (hK15 _ _ _ _ (c_false rfl ?_)))))
        have hE : (hasA s e1 [101] || hasA s e1 [69]) = false := by
         first | (rw [hasA_at hx_, hasA_at hx_, dF (fun h => hx (.inl (by rw [h]; rfl))), dF (fun h => hx (.inr (by rw [h]; rfl)))]; rfl) | (rw [hasA_off (show s.length ≤ e1 by have := Classical.not_not.1 hn1; rw [drop_nil (by omega)] at this; omega) (by simp), hasA_off (show s.length ≤ e1 by have := Classical.not_not.1 hn1; rw [drop_nil (by omega)] at this; omega) (by simp)]; rfl)
        exact cK (e_K (hK14 _ _ _ _ (Cq fun K35 hK35 => Cr (Zm rfl (Sv (o_seq rfl rfl) (Za rfl (Ln (e_K (hK35 _ _ _ _ (cR (ret1 rfl rfl ⟨by first | (rw [whole_exp ha he hb1 h2 he1' hE he2 hk2]; exact congrArg Value.bool (decide_eq_decide.2 (drop_nil (by omega)))) | (rw [whole_int ha he hb1 h2 he1' hE]; exact congrArg Value.bool (decide_eq_decide.2 (drop_nil (by omega)))), E⟩)))))))))))
      ·refine tW 6 rfl (Ln (e_K (hK15 _ _ _ _ (c_false rfl ?_))))
       have hE : (hasA s e1 [101] || hasA s e1 [69]) = false := by
        first | (rw [hasA_at hx_, hasA_at hx_, dF (fun h => hx (.inl (by rw [h]; rfl))), dF (fun h => hx (.inr (by rw [h]; rfl)))]; rfl) | (rw [hasA_off (show s.length ≤ e1 by have := Classical.not_not.1 hn1; rw [drop_nil (by omega)] at this; omega) (by simp), hasA_off (show s.length ≤ e1 by have := Classical.not_not.1 hn1; rw [drop_nil (by omega)] at this; omega) (by simp)]; rfl)
       exact cK (e_K (hK14 _ _ _ _ (Cq fun K36 hK36 => Cr (Zm rfl (Sv (o_seq rfl rfl) (Za rfl (Ln (e_K (hK36 _ _ _ _ (cR (ret1 rfl rfl ⟨by first | (rw [whole_exp ha he hb1 h2 he1' hE he2 hk2]; exact congrArg Value.bool (decide_eq_decide.2 (drop_nil (by omega)))) | (rw [whole_int ha he hb1 h2 he1' hE]; exact congrArg Value.bool (decide_eq_decide.2 (drop_nil (by omega)))), E⟩)))))))))))
    ·have hme : hasA s e [46] = false := h30
     obtain ⟨e1, he1⟩ : ∃ e1, e1 = e := ⟨_, rfl⟩
     rw [← he1]
     have h2 : ¬ (hasA s e [46] = true ∧ spanA isDg s (e + 1) = e + 1) := fun h => by rw [hme] at h; cases h.1
     have he1' : e1 = if hasA s e [46] then spanA isDg s (e + 1) else e := by rw [if_neg (by rw [hme]; simp)]; exact he1
     have hl1 : e1 ≤ s.length := by omega
     refine cK (e_K (hK8 _ _ _ _ (Cq fun K37 hK37 => Cq fun K38 hK38 => Cr (Zm rfl (Sv (o_sne rfl rfl) ?_)))))
     refine bD (fun hn1 : s.drop (e1) ≠ [] => ?_) (fun hn1 => ?_)
     ·obtain ⟨x, hx_⟩ : ∃ x, s[e1]? = some x := ⟨_, List.getElem?_eq_getElem (by rw [Ne, drop_nil (by omega)] at hn1; omega)⟩
      refine tW 2 rfl ?_
      refine Sg rfl rfl ((o_sidx (c := x) Tryz.underlying9 rfl rfl (by decide) (by rw [show ((0 : Int)).toNat = 0 from rfl, List.getElem?_drop, Nat.add_zero]; exact hx_))) ?_
      refine Sg rfl rfl (o_or rfl rfl) (Sg rfl rfl (oE rfl rfl) ?_)
      by_cases hx : (x.toNat = 101 ∨ x.toNat = 69)
      ·refine bE (dT ((e_or32 x.toNat (UInt8.toNat_lt x)).2 hx)) (Sv (oT rfl rfl rfl) (Ln (e_K (hK38 _ _ _ _ (c_true rfl ?_)))))
       have hE : (hasA s e1 [101] || hasA s e1 [69]) = true := by
        rw [hasA_at hx_, hasA_at hx_]
        rcases hx with h | h
        ·rw [dT (u8_eq (by rw [h]; rfl))]; rfl
        ·rw [Bool.or_eq_true]; right; exact dT (u8_eq (by rw [h]; rfl))
       have he1l : e1 + 1 ≤ s.length := (List.getElem?_eq_some_iff.1 hx_).1
       refine Cq fun K39 hK39 => Cr (Zm rfl (Sv ((o_ssfrom (n := 1) Tryz.underlying9 rfl rfl (by rw [List.length_drop]; omega)).to (v' := S (s.drop (e1 + 1))) (by rw [List.drop_drop])) (Za rfl (Ln (e_K (hK39 _ _ _ _ (Cq fun K40 hK40 => Cq fun K41 hK41 => Cr (Zm rfl (Sv (o_sne rfl rfl) ?_)))))))))
       refine bD (fun hn2 : s.drop (e1 + 1) ≠ [] => ?_) (fun hn2 => ?_)
       ·obtain ⟨y, hy_⟩ : ∃ x, s[e1 + 1]? = some x := ⟨_, List.getElem?_eq_getElem (by rw [Ne, drop_nil (by omega)] at hn2; omega)⟩
        refine tW 2 rfl ?_
        refine Sg rfl rfl ((o_sidx (c := y) Tryz.underlying9 rfl rfl (by decide) (by rw [show ((0 : Int)).toNat = 0 from rfl, List.getElem?_drop, Nat.add_zero]; exact hy_))) ?_
        refine Sg rfl rfl (oE rfl rfl) ?_
        refine bD (fun hy1 : (y.toNat : Int) = 43 => ?_) (fun hy1 => ?_)
        ·refine tW 6 rfl (Ln (e_K (hK41 _ _ _ _ (c_true rfl ?_))))
         have hS : (hasA s (e1 + 1) [43] || hasA s (e1 + 1) [45]) = true := by
          rw [hasA_at hy_, hasA_at hy_, Bool.or_eq_true, decide_eq_true_eq, decide_eq_true_eq]
          first | (left; exact u8_eq (by rw [hy1]; rfl)) | (right; exact u8_eq (by rw [hy2]; rfl))
         have he2l : e1 + 2 ≤ s.length := (List.getElem?_eq_some_iff.1 hy_).1
         obtain ⟨e2, hee⟩ : ∃ e2, e2 = e1 + 2 := ⟨_, rfl⟩
         have he2 : e2 = if hasA s (e1 + 1) [43] || hasA s (e1 + 1) [45] then e1 + 2 else e1 + 1 := by rw [if_pos hS]; exact hee
         refine Cr (Zm rfl (Sv ((o_ssfrom (n := 1) Tryz.underlying9 rfl rfl (by rw [List.length_drop]; omega)).to (v' := S (s.drop (e1 + 2))) (by rw [List.drop_drop])) (Za rfl (Ln (e_K (hK40 _ _ _ _ (Cq fun K42 hK42 => ?_)))))))
         have hE2 : e2 ≤ s.length := by omega
         rw [← hee]
         have hgee2 := spanA_ge isDg s e2
         have hlee2 : spanA isDg s e2 ≤ s.length := spanA_le (by omega)
         refine Cr (Zm rfl (sc (oC ent205 rfl) (c_jdigits _ s e2 hs hE2) rfl fun v_ w9 h_ => ?_))
         obtain ⟨rfl, E_⟩ := h_
         replace E := E.then E_
         refine tW 5 rfl (Ln (e_K (hK42 _ _ _ _ (Cq fun K43 hK43 => Cr (tW 2 rfl (Ln (e_K (hK43 _ _ _ _ ?_))))))))
         refine c_if rfl (fun h68 => ?_) (fun h68 => ?_)
         ·have hk2 : spanA isDg s e2 = e2 := by omega
          exact Cq fun K44 hK44 => Cr (Za rfl (Ln (e_K (hK44 _ _ _ _ (cR (eT (by simp) (ret1 rfl rfl ⟨by rw [whole_bad3 ha he hb1 h2 he1' hE he2 hk2], E⟩)))))))
         ·have hk2 : ¬ spanA isDg s e2 = e2 := by omega
          exact cK (e_K (hK37 _ _ _ _ (Cq fun K45 hK45 => Cr (Zm rfl (Sv (o_seq rfl rfl) (Za rfl (Ln (e_K (hK45 _ _ _ _ (cR (ret1 rfl rfl ⟨by first | (rw [whole_exp ha he hb1 h2 he1' hE he2 hk2]; exact congrArg Value.bool (decide_eq_decide.2 (drop_nil (by omega)))) | (rw [whole_int ha he hb1 h2 he1' hE]; exact congrArg Value.bool (decide_eq_decide.2 (drop_nil (by omega)))), E⟩)))))))))))
        ·refine tW 2 rfl ?_
         refine Sg rfl rfl ((o_sidx (c := y) Tryz.underlying9 rfl rfl (by decide) (by rw [show ((0 : Int)).toNat = 0 from rfl, List.getElem?_drop, Nat.add_zero]; exact hy_))) ?_
         refine Sg rfl rfl (oE rfl rfl) ?_
         refine bD (fun hy2 : (y.toNat : Int) = 45 => ?_) (fun hy2 => ?_)
         ·refine tW 2 rfl (Ln (e_K (hK41 _ _ _ _ (c_true rfl ?_))))
          have hS : (hasA s (e1 + 1) [43] || hasA s (e1 + 1) [45]) = true := by
           rw [hasA_at hy_, hasA_at hy_, Bool.or_eq_true, decide_eq_true_eq, decide_eq_true_eq]
           first | (left; exact u8_eq (by rw [hy1]; rfl)) | (right; exact u8_eq (by rw [hy2]; rfl))
          have he2l : e1 + 2 ≤ s.length := (List.getElem?_eq_some_iff.1 hy_).1
          obtain ⟨e2, hee⟩ : ∃ e2, e2 = e1 + 2 := ⟨_, rfl⟩
          have he2 : e2 = if hasA s (e1 + 1) [43] || hasA s (e1 + 1) [45] then e1 + 2 else e1 + 1 := by rw [if_pos hS]; exact hee
          refine Cr (Zm rfl (Sv ((o_ssfrom (n := 1) Tryz.underlying9 rfl rfl (by rw [List.length_drop]; omega)).to (v' := S (s.drop (e1 + 2))) (by rw [List.drop_drop])) (Za rfl (Ln (e_K (hK40 _ _ _ _ (Cq fun K46 hK46 => ?_)))))))
          have hE2 : e2 ≤ s.length := by omega
          rw [← hee]
          have hgee2 := spanA_ge isDg s e2
          have hlee2 : spanA isDg s e2 ≤ s.length := spanA_le (by omega)
          refine Cr (Zm rfl (sc (oC ent205 rfl) (c_jdigits _ s e2 hs hE2) rfl fun v_ w10 h_ => ?_))
          obtain ⟨rfl, E_⟩ := h_
          replace E := E.then E_
          refine tW 5 rfl (Ln (e_K (hK46 _ _ _ _ (Cq fun K47 hK47 => Cr (tW 2 rfl (Ln (e_K (hK47 _ _ _ _ ?_))))))))
          refine c_if rfl (fun h68 => ?_) (fun h68 => ?_)
          ·have hk2 : spanA isDg s e2 = e2 := by omega
           exact Cq fun K48 hK48 => Cr (Za rfl (Ln (e_K (hK48 _ _ _ _ (cR (eT (by simp) (ret1 rfl rfl ⟨by rw [whole_bad3 ha he hb1 h2 he1' hE he2 hk2], E⟩)))))))
          ·have hk2 : ¬ spanA isDg s e2 = e2 := by omega
           exact cK (e_K (hK37 _ _ _ _ (Cq fun K49 hK49 => Cr (Zm rfl (Sv (o_seq rfl rfl) (Za rfl (Ln (e_K (hK49 _ _ _ _ (cR (ret1 rfl rfl ⟨by first | (rw [whole_exp ha he hb1 h2 he1' hE he2 hk2]; exact congrArg Value.bool (decide_eq_decide.2 (drop_nil (by omega)))) | (rw [whole_int ha he hb1 h2 he1' hE]; exact congrArg Value.bool (decide_eq_decide.2 (drop_nil (by omega)))), E⟩)))))))))))
         ·refine tW 2 rfl (Ln (e_K (hK41 _ _ _ _ (c_false rfl ?_))))
          have hS : (hasA s (e1 + 1) [43] || hasA s (e1 + 1) [45]) = false := by
           first | (rw [hasA_at hy_, hasA_at hy_, dF (fun h => hy1 (by rw [h]; rfl)), dF (fun h => hy2 (by rw [h]; rfl))]; rfl) | (rw [hasA_off (show s.length ≤ e1 + 1 by have := Classical.not_not.1 hn2; rw [drop_nil (by omega)] at this; omega) (by simp), hasA_off (show s.length ≤ e1 + 1 by have := Classical.not_not.1 hn2; rw [drop_nil (by omega)] at this; omega) (by simp)]; rfl)
          obtain ⟨e2, hee⟩ : ∃ e2, e2 = e1 + 1 := ⟨_, rfl⟩
          have he2 : e2 = if hasA s (e1 + 1) [43] || hasA s (e1 + 1) [45] then e1 + 2 else e1 + 1 := by rw [if_neg (by rw [hS]; simp)]; exact hee
          refine cK (e_K (hK40 _ _ _ _ (Cq fun K50 hK50 => ?_)))
          have hE2 : e2 ≤ s.length := by omega
          rw [← hee]
          have hgee2 := spanA_ge isDg s e2
          have hlee2 : spanA isDg s e2 ≤ s.length := spanA_le (by omega)
          refine Cr (Zm rfl (sc (oC ent205 rfl) (c_jdigits _ s e2 hs hE2) rfl fun v_ w11 h_ => ?_))
          obtain ⟨rfl, E_⟩ := h_
          replace E := E.then E_
          refine tW 5 rfl (Ln (e_K (hK50 _ _ _ _ (Cq fun K51 hK51 => Cr (tW 2 rfl (Ln (e_K (hK51 _ _ _ _ ?_))))))))
          refine c_if rfl (fun h68 => ?_) (fun h68 => ?_)
          ·have hk2 : spanA isDg s e2 = e2 := by omega
           exact Cq fun K52 hK52 => Cr (Za rfl (Ln (e_K (hK52 _ _ _ _ (cR (eT (by simp) (ret1 rfl rfl ⟨by rw [whole_bad3 ha he hb1 h2 he1' hE he2 hk2], E⟩)))))))
          ·have hk2 : ¬ spanA isDg s e2 = e2 := by omega
           exact cK (e_K (hK37 _ _ _ _ (Cq fun K53 hK53 => Cr (Zm rfl (Sv (o_seq rfl rfl) (Za rfl (Ln (e_K (hK53 _ _ _ _ (cR (ret1 rfl rfl ⟨by first | (rw [whole_exp ha he hb1 h2 he1' hE he2 hk2]; exact congrArg Value.bool (decide_eq_decide.2 (drop_nil (by omega)))) | (rw [whole_int ha he hb1 h2 he1' hE]; exact congrArg Value.bool (decide_eq_decide.2 (drop_nil (by omega)))), E⟩)))))))))))
       ·refine tW 10 rfl (Ln (e_K (hK41 _ _ _ _ (c_false rfl ?_))))
        have hS : (hasA s (e1 + 1) [43] || hasA s (e1 + 1) [45]) = false := by
         first | (rw [hasA_at hy_, hasA_at hy_, dF (fun h => hy1 (by rw [h]; rfl)), dF (fun h => hy2 (by rw [h]; rfl))]; rfl) | (rw [hasA_off (show s.length ≤ e1 + 1 by have := Classical.not_not.1 hn2; rw [drop_nil (by omega)] at this; omega) (by simp), hasA_off (show s.length ≤ e1 + 1 by have := Classical.not_not.1 hn2; rw [drop_nil (by omega)] at this; omega) (by simp)]; rfl)
        obtain ⟨e2, hee⟩ : ∃ e2, e2 = e1 + 1 := ⟨_, rfl⟩
        have he2 : e2 = if hasA s (e1 + 1) [43] || hasA s (e1 + 1) [45] then e1 + 2 else e1 + 1 := by rw [if_neg (by rw [hS]; simp)]; exact hee
        refine cK (e_K (hK40 _ _ _ _ (Cq fun K54 hK54 => ?_)))
        have hE2 : e2 ≤ s.length := by omega
        rw [← hee]
        have hgee2 := spanA_ge isDg s e2
        have hlee2 : spanA isDg s e2 ≤ s.length := spanA_le (by omega)
        refine Cr (Zm rfl (sc (oC ent205 rfl) (c_jdigits _ s e2 hs hE2) rfl fun v_ w12 h_ => ?_))
        obtain ⟨rfl, E_⟩ := h_
        replace E := E.then E_
        refine tW 5 rfl (Ln (e_K (hK54 _ _ _ _ (Cq fun K55 hK55 => Cr (tW 2 rfl (Ln (e_K (hK55 _ _ _ _ ?_))))))))
        refine c_if rfl (fun h68 => ?_) (fun h68 => ?_)
        ·have hk2 : spanA isDg s e2 = e2 := by omega
         exact Cq fun K56 hK56 => Cr (Za rfl (Ln (e_K (hK56 _ _ _ _ (cR (eT (by simp) (ret1 rfl rfl ⟨by rw [whole_bad3 ha he hb1 h2 he1' hE he2 hk2], E⟩)))))))
        ·have hk2 : ¬ spanA isDg s e2 = e2 := by omega
         exact cK (e_K (hK37 _ _ _ _ (Cq fun K57 hK57 => Cr (Zm rfl (Sv (o_seq rfl rfl) (Za rfl (Ln (e_K (hK57 _ _ _ _ (cR (ret1 rfl rfl ⟨by first | (rw [whole_exp ha he hb1 h2 he1' hE he2 hk2]; exact congrArg Value.bool (decide_eq_decide.2 (drop_nil (by omega)))) | (rw [whole_int ha he hb1 h2 he1' hE]; exact congrArg Value.bool (decide_eq_decide.2 (drop_nil (by omega)))), E⟩)))))))))))
      ·refine bE (dF (fun h => hx ((e_or32 x.toNat (UInt8.toNat_lt x)).1 h))) (Sv (oT rfl rfl rfl) (Ln (e_K (hK38 _ _ _ _ (c_false rfl ?_)))))
       have hE : (hasA s e1 [101] || hasA s e1 [69]) = false := by
        first | (rw [hasA_at hx_, hasA_at hx_, dF (fun h => hx (.inl (by rw [h]; rfl))), dF (fun h => hx (.inr (by rw [h]; rfl)))]; rfl) | (rw [hasA_off (show s.length ≤ e1 by have := Classical.not_not.1 hn1; rw [drop_nil (by omega)] at this; omega) (by simp), hasA_off (show s.length ≤ e1 by have := Classical.not_not.1 hn1; rw [drop_nil (by omega)] at this; omega) (by simp)]; rfl)
       exact cK (e_K (hK37 _ _ _ _ (Cq fun K58 hK58 => Cr (Zm rfl (Sv (o_seq rfl rfl) (Za rfl (Ln (e_K (hK58 _ _ _ _ (cR (ret1 rfl rfl ⟨by first | (rw [whole_exp ha he hb1 h2 he1' hE he2 hk2]; exact congrArg Value.bool (decide_eq_decide.2 (drop_nil (by omega)))) | (rw [whole_int ha he hb1 h2 he1' hE]; exact congrArg Value.bool (decide_eq_decide.2 (drop_nil (by omega)))), E⟩)))))))))))
     ·refine tW 6 rfl (Ln (e_K (hK38 _ _ _ _ (c_false rfl ?_))))
      have hE : (hasA s e1 [101] || hasA s e1 [69]) = false := by
       first | (rw [hasA_at hx_, hasA_at hx_, dF (fun h => hx (.inl (by rw [h]; rfl))), dF (fun h => hx (.inr (by rw [h]; rfl)))]; rfl) | (rw [hasA_off (show s.length ≤ e1 by have := Classical.not_not.1 hn1; rw [drop_nil (by omega)] at this; omega) (by simp), hasA_off (show s.length ≤ e1 by have := Classical.not_not.1 hn1; rw [drop_nil (by omega)] at this; omega) (by simp)]; rfl)
      exact cK (e_K (hK37 _ _ _ _ (Cq fun K59 hK59 => Cr (Zm rfl (Sv (o_seq rfl rfl) (Za rfl (Ln (e_K (hK59 _ _ _ _ (cR (ret1 rfl rfl ⟨by first | (rw [whole_exp ha he hb1 h2 he1' hE he2 hk2]; exact congrArg Value.bool (decide_eq_decide.2 (drop_nil (by omega)))) | (rw [whole_int ha he hb1 h2 he1' hE]; exact congrArg Value.bool (decide_eq_decide.2 (drop_nil (by omega)))), E⟩)))))))))))
  ·refine tW 6 rfl (Ln (e_K (hK5 _ _ _ _ (c_false rfl ?_))))
   have hb1 : ¬ (e = a ∨ (a + 1 < e ∧ s[a]? = some 48)) := by
    rintro (h | ⟨h, h'⟩)
    ·omega
    ·first | omega | (rw [hd_] at h'; injection h' with h'; subst h'; exact h48 rfl)
   refine cK (e_K (hK4 _ _ _ _ (Cq fun K60 hK60 => Cq fun K61 hK61 => Cr (Zm rfl (sc (oC ent196 rfl) (c_cutp _ (s.drop e) [46]) rfl fun v_ w13 h_ => ?_)))))
   obtain ⟨rfl, E_⟩ := h_
   replace E := E.then E_
   refine tW 5 rfl (Ln (e_K (hK61 _ _ _ _ (Cq fun K62 hK62 => Cr (Zm rfl (Ln (e_K (hK62 _ _ _ _ ?_))))))))
   refine c_cond rfl (fun h30 => ?_) (fun h30 => ?_)
   ·skip
    refine Cq fun K63 hK63 => ?_
    have hpe : Lib.trimPrefix (s.drop e) [46] = s.drop (e + 1) := by
     unfold Lib.trimPrefix
     rw [if_pos h30, List.drop_drop]
     rfl
    rw [hpe]
    have hel : e + 1 ≤ s.length := hasA_len (t := [46]) h30 (by simp)
    have hgek := spanA_ge isDg s (e + 1)
    have hlek : spanA isDg s (e + 1) ≤ s.length := spanA_le (by omega)
    refine Cr (Zm rfl (sc (oC ent205 rfl) (c_jdigits _ s (e + 1) hs hel) rfl fun v_ w14 h_ => ?_))
    obtain ⟨rfl, E_⟩ := h_
    replace E := E.then E_
    refine tW 5 rfl (Ln (e_K (hK63 _ _ _ _ (Cq fun K64 hK64 => Cr (tW 2 rfl (Ln (e_K (hK64 _ _ _ _ ?_))))))))
    refine c_if rfl (fun h37 => ?_) (fun h37 => ?_)
    ·have hk0 : spanA isDg s (e + 1) = e + 1 := by omega
     exact Cq fun K65 hK65 => Cr (Za rfl (Ln (e_K (hK65 _ _ _ _ (cR (eT (by simp) (ret1 rfl rfl ⟨by rw [whole_bad2 ha he hb1 h30 hk0], E⟩)))))))
    ·have hk1 : ¬ spanA isDg s (e + 1) = e + 1 := by omega
     have hl1 : spanA isDg s (e + 1) ≤ s.length := hlek
     have hme : hasA s e [46] = true := h30
     obtain ⟨e1, he1⟩ : ∃ e1, e1 = spanA isDg s (e + 1) := ⟨_, rfl⟩
     rw [← he1] at hk1 ⊢
     have h2 : ¬ (hasA s e [46] = true ∧ spanA isDg s (e + 1) = e + 1) := fun h => hk1 (by rw [he1]; omega)
     have he1' : e1 = if hasA s e [46] then spanA isDg s (e + 1) else e := by rw [if_pos hme]; exact he1
     refine cK (e_K (hK60 _ _ _ _ (Cq fun K66 hK66 => Cq fun K67 hK67 => Cr (Zm rfl (Sv (o_sne rfl rfl) ?_)))))
     refine bD (fun hn1 : s.drop (e1) ≠ [] => ?_) (fun hn1 => ?_)
     ·obtain ⟨x, hx_⟩ : ∃ x, s[e1]? = some x := ⟨_, List.getElem?_eq_getElem (by rw [Ne, drop_nil (by omega)] at hn1; omega)⟩
      refine tW 2 rfl ?_
      refine Sg rfl rfl ((o_sidx (c := x) Tryz.underlying9 rfl rfl (by decide) (by rw [show ((0 : Int)).toNat = 0 from rfl, List.getElem?_drop, Nat.add_zero]; exact hx_))) ?_
      refine Sg rfl rfl (o_or rfl rfl) (Sg rfl rfl (oE rfl rfl) ?_)
      by_cases hx : (x.toNat = 101 ∨ x.toNat = 69)
      ·refine bE (dT ((e_or32 x.toNat (UInt8.toNat_lt x)).2 hx)) (Sv (oT rfl rfl rfl) (Ln (e_K (hK67 _ _ _ _ (c_true rfl ?_)))))
       have hE : (hasA s e1 [101] || hasA s e1 [69]) = true := by
        rw [hasA_at hx_, hasA_at hx_]
        rcases hx with h | h
        ·rw [dT (u8_eq (by rw [h]; rfl))]; rfl
        ·rw [Bool.or_eq_true]; right; exact dT (u8_eq (by rw [h]; rfl))
       have he1l : e1 + 1 ≤ s.length := (List.getElem?_eq_some_iff.1 hx_).1
       refine Cq fun K68 hK68 => Cr (Zm rfl (Sv ((o_ssfrom (n := 1) Tryz.underlying9 rfl rfl (by rw [List.length_drop]; omega)).to (v' := S (s.drop (e1 + 1))) (by rw [List.drop_drop])) (Za rfl (Ln (e_K (hK68 _ _ _ _ (Cq fun K69 hK69 => Cq fun K70 hK70 => Cr (Zm rfl (Sv (o_sne rfl rfl) ?_)))))))))
       refine bD (fun hn2 : s.drop (e1 + 1) ≠ [] => ?_) (fun hn2 => ?_)
       ·obtain ⟨y, hy_⟩ : ∃ x, s[e1 + 1]? = some x := ⟨_, List.getElem?_eq_getElem (by rw [Ne, drop_nil (by omega)] at hn2; omega)⟩
        refine tW 2 rfl ?_
        refine Sg rfl rfl ((o_sidx (c := y) Tryz.underlying9 rfl rfl (by decide) (by rw [show ((0 : Int)).toNat = 0 from rfl, List.getElem?_drop, Nat.add_zero]; exact hy_))) ?_
        refine Sg rfl rfl (oE rfl rfl) ?_
        refine bD (fun hy1 : (y.toNat : Int) = 43 => ?_) (fun hy1 => ?_)
        ·refine tW 6 rfl (Ln (e_K (hK70 _ _ _ _ (c_true rfl ?_))))
         have hS : (hasA s (e1 + 1) [43] || hasA s (e1 + 1) [45]) = true := by
          rw [hasA_at hy_, hasA_at hy_, Bool.or_eq_true, decide_eq_true_eq, decide_eq_true_eq]
          first | (left; exact u8_eq (by rw [hy1]; rfl)) | (right; exact u8_eq (by rw [hy2]; rfl))
         have he2l : e1 + 2 ≤ s.length := (List.getElem?_eq_some_iff.1 hy_).1
         obtain ⟨e2, hee⟩ : ∃ e2, e2 = e1 + 2 := ⟨_, rfl⟩
         have he2 : e2 = if hasA s (e1 + 1) [43] || hasA s (e1 + 1) [45] then e1 + 2 else e1 + 1 := by rw [if_pos hS]; exact hee
         refine Cr (Zm rfl (Sv ((o_ssfrom (n := 1) Tryz.underlying9 rfl rfl (by rw [List.length_drop]; omega)).to (v' := S (s.drop (e1 + 2))) (by rw [List.drop_drop])) (Za rfl (Ln (e_K (hK69 _ _ _ _ (Cq fun K71 hK71 => ?_)))))))
         have hE2 : e2 ≤ s.length := by omega
         rw [← hee]
         have hgee2 := spanA_ge isDg s e2
         have hlee2 : spanA isDg s e2 ≤ s.length := spanA_le (by omega)
         refine Cr (Zm rfl (sc (oC ent205 rfl) (c_jdigits _ s e2 hs hE2) rfl fun v_ w15 h_ => ?_))
         obtain ⟨rfl, E_⟩ := h_
         replace E := E.then E_
         refine tW 5 rfl (Ln (e_K (hK71 _ _ _ _ (Cq fun K72 hK72 => Cr (tW 2 rfl (Ln (e_K (hK72 _ _ _ _ ?_))))))))
         refine c_if rfl (fun h68 => ?_) (fun h68 => ?_)
         ·have hk2 : spanA isDg s e2 = e2 := by omega
          exact Cq fun K73 hK73 => Cr (Za rfl (Ln (e_K (hK73 _ _ _ _ (cR (eT (by simp) (ret1 rfl rfl ⟨by rw [whole_bad3 ha he hb1 h2 he1' hE he2 hk2], E⟩)))))))
         ·have hk2 : ¬ spanA isDg s e2 = e2 := by omega
          exact cK (e_K (hK66 _ _ _ _ (Cq fun K74 hK74 => Cr (Zm rfl (Sv (o_seq rfl rfl) (Za rfl (Ln (e_K (hK74 _ _ _ _ (cR (ret1 rfl rfl ⟨by first | (rw [whole_exp ha he hb1 h2 he1' hE he2 hk2]; exact congrArg Value.bool (decide_eq_decide.2 (drop_nil (by omega)))) | (rw [whole_int ha he hb1 h2 he1' hE]; exact congrArg Value.bool (decide_eq_decide.2 (drop_nil (by omega)))), E⟩)))))))))))
        ·refine tW 2 rfl ?_
         refine Sg rfl rfl ((o_sidx (c := y) Tryz.underlying9 rfl rfl (by decide) (by rw [show ((0 : Int)).toNat = 0 from rfl, List.getElem?_drop, Nat.add_zero]; exact hy_))) ?_
         refine Sg rfl rfl (oE rfl rfl) ?_
         refine bD (fun hy2 : (y.toNat : Int) = 45 => ?_) (fun hy2 => ?_)
         ·refine tW 2 rfl (Ln (e_K (hK70 _ _ _ _ (c_true rfl ?_))))
          have hS : (hasA s (e1 + 1) [43] || hasA s (e1 + 1) [45]) = true := by
           rw [hasA_at hy_, hasA_at hy_, Bool.or_eq_true, decide_eq_true_eq, decide_eq_true_eq]
           first | (left; exact u8_eq (by rw [hy1]; rfl)) | (right; exact u8_eq (by rw [hy2]; rfl))
          have he2l : e1 + 2 ≤ s.length := (List.getElem?_eq_some_iff.1 hy_).1
          obtain ⟨e2, hee⟩ : ∃ e2, e2 = e1 + 2 := ⟨_, rfl⟩
          have he2 : e2 = if hasA s (e1 + 1) [43] || hasA s (e1 + 1) [45] then e1 + 2 else e1 + 1 := by rw [if_pos hS]; exact hee
          refine Cr (Zm rfl (Sv ((o_ssfrom (n := 1) Tryz.underlying9 rfl rfl (by rw [List.length_drop]; omega)).to (v' := S (s.drop (e1 + 2))) (by rw [List.drop_drop])) (Za rfl (Ln (e_K (hK69 _ _ _ _ (Cq fun K75 hK75 => ?_)))))))
          have hE2 : e2 ≤ s.length := by omega
          rw [← hee]
          have hgee2 := spanA_ge isDg s e2
          have hlee2 : spanA isDg s e2 ≤ s.length := spanA_le (by omega)
          refine Cr (Zm rfl (sc (oC ent205 rfl) (c_jdigits _ s e2 hs hE2) rfl fun v_ w16 h_ => ?_))
          obtain ⟨rfl, E_⟩ := h_
          replace E := E.then E_
          refine tW 5 rfl (Ln (e_K (hK75 _ _ _ _ (Cq fun K76 hK76 => Cr (tW 2 rfl (Ln (e_K (hK76 _ _ _ _ ?_))))))))
          refine c_if rfl (fun h68 => ?_) (fun h68 => ?_)
          ·have hk2 : spanA isDg s e2 = e2 := by omega
           exact Cq fun K77 hK77 => Cr (Za rfl (Ln (e_K (hK77 _ _ _ _ (cR (eT (by simp) (ret1 rfl rfl ⟨by rw [whole_bad3 ha he hb1 h2 he1' hE he2 hk2], E⟩)))))))
          ·have hk2 : ¬ spanA isDg s e2 = e2 := by omega
           exact cK (e_K (hK66 _ _ _ _ (Cq fun K78 hK78 => Cr (Zm rfl (Sv (o_seq rfl rfl) (Za rfl (Ln (e_K (hK78 _ _ _ _ (cR (ret1 rfl rfl ⟨by first | (rw [whole_exp ha he hb1 h2 he1' hE he2 hk2]; exact congrArg Value.bool (decide_eq_decide.2 (drop_nil (by omega)))) | (rw [whole_int ha he hb1 h2 he1' hE]; exact congrArg Value.bool (decide_eq_decide.2 (drop_nil (by omega)))), E⟩)))))))))))
         ·refine tW 2 rfl (Ln (e_K (hK70 _ _ _ _ (c_false rfl ?_))))
          have hS : (hasA s (e1 + 1) [43] || hasA s (e1 + 1) [45]) = false := by
           first | (rw [hasA_at hy_, hasA_at hy_, dF (fun h => hy1 (by rw [h]; rfl)), dF (fun h => hy2 (by rw [h]; rfl))]; rfl) | (rw [hasA_off (show s.length ≤ e1 + 1 by have := Classical.not_not.1 hn2; rw [drop_nil (by omega)] at this; omega) (by simp), hasA_off (show s.length ≤ e1 + 1 by have := Classical.not_not.1 hn2; rw [drop_nil (by omega)] at this; omega) (by simp)]; rfl)
          obtain ⟨e2, hee⟩ : ∃ e2, e2 = e1 + 1 := ⟨_, rfl⟩
          have he2 : e2 = if hasA s (e1 + 1) [43] || hasA s (e1 + 1) [45] then e1 + 2 else e1 + 1 := by rw [if_neg (by rw [hS]; simp)]; exact hee
          refine cK (e_K (hK69 _ _ _ _ (Cq fun K79 hK79 => ?_)))
          have hE2 : e2 ≤ s.length := by omega
          rw [← hee]
          have hgee2 := spanA_ge isDg s e2
          have hlee2 : spanA isDg s e2 ≤ s.length := spanA_le (by omega)
          refine Cr (Zm rfl (sc (oC ent205 rfl) (c_jdigits _ s e2 hs hE2) rfl fun v_ w17 h_ => ?_))
          obtain ⟨rfl, E_⟩ := h_
          replace E := E.then E_
          refine tW 5 rfl (Ln (e_K (hK79 _ _ _ _ (Cq fun K80 hK80 => Cr (tW 2 rfl (Ln (e_K (hK80 _ _ _ _ ?_))))))))
          refine c_if rfl (fun h68 => ?_) (fun h68 => ?_)
          ·have hk2 : spanA isDg s e2 = e2 := by omega
           exact Cq fun K81 hK81 => Cr (Za rfl (Ln (e_K (hK81 _ _ _ _ (cR (eT (by simp) (ret1 rfl rfl ⟨by rw [whole_bad3 ha he hb1 h2 he1' hE he2 hk2], E⟩)))))))
          ·have hk2 : ¬ spanA isDg s e2 = e2 := by omega
           exact cK (e_K (hK66 _ _ _ _ (Cq fun K82 hK82 => Cr (Zm rfl (Sv (o_seq rfl rfl) (Za rfl (Ln (e_K (hK82 _ _ _ _ (cR (ret1 rfl rfl ⟨by first | (rw [whole_exp ha he hb1 h2 he1' hE he2 hk2]; exact congrArg Value.bool (decide_eq_decide.2 (drop_nil (by omega)))) | (rw [whole_int ha he hb1 h2 he1' hE]; exact congrArg Value.bool (decide_eq_decide.2 (drop_nil (by omega)))), E⟩)))))))))))
       ·refine tW 10 rfl (Ln (e_K (hK70 _ _ _ _ (c_false rfl ?_))))
        have hS : (hasA s (e1 + 1) [43] || hasA s (e1 + 1) [45]) = false := by
         first | (rw [hasA_at hy_, hasA_at hy_, dF (fun h => hy1 (by rw [h]; rfl)), dF (fun h => hy2 (by rw [h]; rfl))]; rfl) | (rw [hasA_off (show s.length ≤ e1 + 1 by have := Classical.not_not.1 hn2; rw [drop_nil (by omega)] at this; omega) (by simp), hasA_off (show s.length ≤ e1 + 1 by have := Classical.not_not.1 hn2; rw [drop_nil (by omega)] at this; omega) (by simp)]; rfl)
        obtain ⟨e2, hee⟩ : ∃ e2, e2 = e1 + 1 := ⟨_, rfl⟩
        have he2 : e2 = if hasA s (e1 + 1) [43] || hasA s (e1 + 1) [45] then e1 + 2 else e1 + 1 := by rw [if_neg (by rw [hS]; simp)]; exact hee
        refine cK (e_K (hK69 _ _ _ _ (Cq fun K83 hK83 => ?_)))
        have hE2 : e2 ≤ s.length := by omega
        rw [← hee]
        have hgee2 := spanA_ge isDg s e2
        have hlee2 : spanA isDg s e2 ≤ s.length := spanA_le (by omega)
        refine Cr (Zm rfl (sc (oC ent205 rfl) (c_jdigits _ s e2 hs hE2) rfl fun v_ w18 h_ => ?_))
        obtain ⟨rfl, E_⟩ := h_
        replace E := E.then E_
        refine tW 5 rfl (Ln (e_K (hK83 _ _ _ _ (Cq fun K84 hK84 => Cr (tW 2 rfl (Ln (e_K (hK84 _ _ _ _ ?_))))))))
        refine c_if rfl (fun h68 => ?_) (fun h68 => ?_)
        ·have hk2 : spanA isDg s e2 = e2 := by omega
         exact Cq fun K85 hK85 => Cr (Za rfl (Ln (e_K (hK85 _ _ _ _ (cR (eT (by simp) (ret1 rfl rfl ⟨by rw [whole_bad3 ha he hb1 h2 he1' hE he2 hk2], E⟩)))))))
        ·have hk2 : ¬ spanA isDg s e2 = e2 := by omega
         exact cK (e_K (hK66 _ _ _ _ (Cq fun K86 hK86 => Cr (Zm rfl (Sv (o_seq rfl rfl) (Za rfl (Ln (e_K (hK86 _ _ _ _ (cR (ret1 rfl rfl ⟨by first | (rw [whole_exp ha he hb1 h2 he1' hE he2 hk2]; exact congrArg Value.bool (decide_eq_decide.2 (drop_nil (by omega)))) | (rw [whole_int ha he hb1 h2 he1' hE]; exact congrArg Value.bool (decide_eq_decide.2 (drop_nil (by omega)))), E⟩)))))))))))
      ·refine bE (dF (fun h => hx ((e_or32 x.toNat (UInt8.toNat_lt x)).1 h))) (Sv (oT rfl rfl rfl) (Ln (e_K (hK67 _ _ _ _ (c_false rfl ?_)))))
       have hE : (hasA s e1 [101] || hasA s e1 [69]) = false := by
        first | (rw [hasA_at hx_, hasA_at hx_, dF (fun h => hx (.inl (by rw [h]; rfl))), dF (fun h => hx (.inr (by rw [h]; rfl)))]; rfl) | (rw [hasA_off (show s.length ≤ e1 by have := Classical.not_not.1 hn1; rw [drop_nil (by omega)] at this; omega) (by simp), hasA_off (show s.length ≤ e1 by have := Classical.not_not.1 hn1; rw [drop_nil (by omega)] at this; omega) (by simp)]; rfl)
       exact cK (e_K (hK66 _ _ _ _ (Cq fun K87 hK87 => Cr (Zm rfl (Sv (o_seq rfl rfl) (Za rfl (Ln (e_K (hK87 _ _ _ _ (cR (ret1 rfl rfl ⟨by first | (rw [whole_exp ha he hb1 h2 he1' hE he2 hk2]; exact congrArg Value.bool (decide_eq_decide.2 (drop_nil (by omega)))) | (rw [whole_int ha he hb1 h2 he1' hE]; exact congrArg Value.bool (decide_eq_decide.2 (drop_nil (by omega)))), E⟩)))))))))))
     ·refine tW 6 rfl (Ln (e_K (hK67 _ _ _ _ (c_false rfl ?_))))
      have hE : (hasA s e1 [101] || hasA s e1 [69]) = false := by
       first | (rw [hasA_at hx_, hasA_at hx_, dF (fun h => hx (.inl (by rw [h]; rfl))), dF (fun h => hx (.inr (by rw [h]; rfl)))]; rfl) | (rw [hasA_off (show s.length ≤ e1 by have := Classical.not_not.1 hn1; rw [drop_nil (by omega)] at this; omega) (by simp), hasA_off (show s.length ≤ e1 by have := Classical.not_not.1 hn1; rw [drop_nil (by omega)] at this; omega) (by simp)]; rfl)
      exact cK (e_K (hK66 _ _ _ _ (Cq fun K88 hK88 => Cr (Zm rfl (Sv (o_seq rfl rfl) (Za rfl (Ln (e_K (hK88 _ _ _ _ (cR (ret1 rfl rfl ⟨by first | (rw [whole_exp ha he hb1 h2 he1' hE he2 hk2]; exact congrArg Value.bool (decide_eq_decide.2 (drop_nil (by omega)))) | (rw [whole_int ha he hb1 h2 he1' hE]; exact congrArg Value.bool (decide_eq_decide.2 (drop_nil (by omega)))), E⟩)))))))))))
   ·have hme : hasA s e [46] = false := h30
    obtain ⟨e1, he1⟩ : ∃ e1, e1 = e := ⟨_, rfl⟩
    rw [← he1]
    have h2 : ¬ (hasA s e [46] = true ∧ spanA isDg s (e + 1) = e + 1) := fun h => by rw [hme] at h; cases h.1
    have he1' : e1 = if hasA s e [46] then spanA isDg s (e + 1) else e := by rw [if_neg (by rw [hme]; simp)]; exact he1
    have hl1 : e1 ≤ s.length := by omega
    refine cK (e_K (hK60 _ _ _ _ (Cq fun K89 hK89 => Cq fun K90 hK90 => Cr (Zm rfl (Sv (o_sne rfl rfl) ?_)))))
    refine bD (fun hn1 : s.drop (e1) ≠ [] => ?_) (fun hn1 => ?_)
    ·obtain ⟨x, hx_⟩ : ∃ x, s[e1]? = some x := ⟨_, List.getElem?_eq_getElem (by rw [Ne, drop_nil (by omega)] at hn1; omega)⟩
     refine tW 2 rfl ?_
     refine Sg rfl rfl ((o_sidx (c := x) Tryz.underlying9 rfl rfl (by decide) (by rw [show ((0 : Int)).toNat = 0 from rfl, List.getElem?_drop, Nat.add_zero]; exact hx_))) ?_
     refine Sg rfl rfl (o_or rfl rfl) (Sg rfl rfl (oE rfl rfl) ?_)
     by_cases hx : (x.toNat = 101 ∨ x.toNat = 69)
     ·refine bE (dT ((e_or32 x.toNat (UInt8.toNat_lt x)).2 hx)) (Sv (oT rfl rfl rfl) (Ln (e_K (hK90 _ _ _ _ (c_true rfl ?_)))))
      have hE : (hasA s e1 [101] || hasA s e1 [69]) = true := by
       rw [hasA_at hx_, hasA_at hx_]
       rcases hx with h | h
       ·rw [dT (u8_eq (by rw [h]; rfl))]; rfl
       ·rw [Bool.or_eq_true]; right; exact dT (u8_eq (by rw [h]; rfl))
      have he1l : e1 + 1 ≤ s.length := (List.getElem?_eq_some_iff.1 hx_).1
      refine Cq fun K91 hK91 => Cr (Zm rfl (Sv ((o_ssfrom (n := 1) Tryz.underlying9 rfl rfl (by rw [List.length_drop]; omega)).to (v' := S (s.drop (e1 + 1))) (by rw [List.drop_drop])) (Za rfl (Ln (e_K (hK91 _ _ _ _ (Cq fun K92 hK92 => Cq fun K93 hK93 => Cr (Zm rfl (Sv (o_sne rfl rfl) ?_)))))))))
      refine bD (fun hn2 : s.drop (e1 + 1) ≠ [] => ?_) (fun hn2 => ?_)
      ·obtain ⟨y, hy_⟩ : ∃ x, s[e1 + 1]? = some x := ⟨_, List.getElem?_eq_getElem (by rw [Ne, drop_nil (by omega)] at hn2; omega)⟩
       refine tW 2 rfl ?_
       refine Sg rfl rfl ((o_sidx (c := y) Tryz.underlying9 rfl rfl (by decide) (by rw [show ((0 : Int)).toNat = 0 from rfl, List.getElem?_drop, Nat.add_zero]; exact hy_))) ?_
       refine Sg rfl rfl (oE rfl rfl) ?_
       refine bD (fun hy1 : (y.toNat : Int) = 43 => ?_) (fun hy1 => ?_)
       ·refine tW 6 rfl (Ln (e_K (hK93 _ _ _ _ (c_true rfl ?_))))
        have hS : (hasA s (e1 + 1) [43] || hasA s (e1 + 1) [45]) = true := by
         rw [hasA_at hy_, hasA_at hy_, Bool.or_eq_true, decide_eq_true_eq, decide_eq_true_eq]
         first | (left; exact u8_eq (by rw [hy1]; rfl)) | (right; exact u8_eq (by rw [hy2]; rfl))
        have he2l : e1 + 2 ≤ s.length := (List.getElem?_eq_some_iff.1 hy_).1
        obtain ⟨e2, hee⟩ : ∃ e2, e2 = e1 + 2 := ⟨_, rfl⟩
        have he2 : e2 = if hasA s (e1 + 1) [43] || hasA s (e1 + 1) [45] then e1 + 2 else e1 + 1 := by rw [if_pos hS]; exact hee
        refine Cr (Zm rfl (Sv ((o_ssfrom (n := 1) Tryz.underlying9 rfl rfl (by rw [List.length_drop]; omega)).to (v' := S (s.drop (e1 + 2))) (by rw [List.drop_drop])) (Za rfl (Ln (e_K (hK92 _ _ _ _ (Cq fun K94 hK94 => ?_)))))))
        have hE2 : e2 ≤ s.length := by omega
        rw [← hee]
        have hgee2 := spanA_ge isDg s e2
        have hlee2 : spanA isDg s e2 ≤ s.length := spanA_le (by omega)
        refine Cr (Zm rfl (sc (oC ent205 rfl) (c_jdigits _ s e2 hs hE2) rfl fun v_ w19 h_ => ?_))
        obtain ⟨rfl, E_⟩ := h_
        replace E := E.then E_
        refine tW 5 rfl (Ln (e_K (hK94 _ _ _ _ (Cq fun K95 hK95 => Cr (tW 2 rfl (Ln (e_K (hK95 _ _ _ _ ?_))))))))
        refine c_if rfl (fun h68 => ?_) (fun h68 => ?_)
        ·have hk2 : spanA isDg s e2 = e2 := by omega
         exact Cq fun K96 hK96 => Cr (Za rfl (Ln (e_K (hK96 _ _ _ _ (cR (eT (by simp) (ret1 rfl rfl ⟨by rw [whole_bad3 ha he hb1 h2 he1' hE he2 hk2], E⟩)))))))
        ·have hk2 : ¬ spanA isDg s e2 = e2 := by omega
         exact cK (e_K (hK89 _ _ _ _ (Cq fun K97 hK97 => Cr (Zm rfl (Sv (o_seq rfl rfl) (Za rfl (Ln (e_K (hK97 _ _ _ _ (cR (ret1 rfl rfl ⟨by first | (rw [whole_exp ha he hb1 h2 he1' hE he2 hk2]; exact congrArg Value.bool (decide_eq_decide.2 (drop_nil (by omega)))) | (rw [whole_int ha he hb1 h2 he1' hE]; exact congrArg Value.bool (decide_eq_decide.2 (drop_nil (by omega)))), E⟩)))))))))))
       ·refine tW 2 rfl ?_
        refine Sg rfl rfl ((o_sidx (c := y) Tryz.underlying9 rfl rfl (by decide) (by rw [show ((0 : Int)).toNat = 0 from rfl, List.getElem?_drop, Nat.add_zero]; exact hy_))) ?_
        refine Sg rfl rfl (oE rfl rfl) ?_
        refine bD (fun hy2 : (y.toNat : Int) = 45 => ?_) (fun hy2 => ?_)
        ·refine tW 2 rfl (Ln (e_K (hK93 _ _ _ _ (c_true rfl ?_))))
         have hS : (hasA s (e1 + 1) [43] || hasA s (e1 + 1) [45]) = true := by
          rw [hasA_at hy_, hasA_at hy_, Bool.or_eq_true, decide_eq_true_eq, decide_eq_true_eq]
          first | (left; exact u8_eq (by rw [hy1]; rfl)) | (right; exact u8_eq (by rw [hy2]; rfl))
         have he2l : e1 + 2 ≤ s.length := (List.getElem?_eq_some_iff.1 hy_).1
         obtain ⟨e2, hee⟩ : ∃ e2, e2 = e1 + 2 := ⟨_, rfl⟩
         have he2 : e2 = if hasA s (e1 + 1) [43] || hasA s (e1 + 1) [45] then e1 + 2 else e1 + 1 := by rw [if_pos hS]; exact hee
         refine Cr (Zm rfl (Sv ((o_ssfrom (n := 1) Tryz.underlying9 rfl rfl (by rw [List.length_drop]; omega)).to (v' := S (s.drop (e1 + 2))) (by rw [List.drop_drop])) (Za rfl (Ln (e_K (hK92 _ _ _ _ (Cq fun K98 hK98 => ?_)))))))
         have hE2 : e2 ≤ s.length := by omega
         rw [← hee]
         have hgee2 := spanA_ge isDg s e2
         have hlee2 : spanA isDg s e2 ≤ s.length := spanA_le (by omega)
         refine Cr (Zm rfl (sc (oC ent205 rfl) (c_jdigits _ s e2 hs hE2) rfl fun v_ w20 h_ => ?_))
         obtain ⟨rfl, E_⟩ := h_
         replace E := E.then E_
         refine tW 5 rfl (Ln (e_K (hK98 _ _ _ _ (Cq fun K99 hK99 => Cr (tW 2 rfl (Ln (e_K (hK99 _ _ _ _ ?_))))))))
         refine c_if rfl (fun h68 => ?_) (fun h68 => ?_)
         ·have hk2 : spanA isDg s e2 = e2 := by omega
          exact Cq fun K100 hK100 => Cr (Za rfl (Ln (e_K (hK100 _ _ _ _ (cR (eT (by simp) (ret1 rfl rfl ⟨by rw [whole_bad3 ha he hb1 h2 he1' hE he2 hk2], E⟩)))))))
         ·have hk2 : ¬ spanA isDg s e2 = e2 := by omega
          exact cK (e_K (hK89 _ _ _ _ (Cq fun K101 hK101 => Cr (Zm rfl (Sv (o_seq rfl rfl) (Za rfl (Ln (e_K (hK101 _ _ _ _ (cR (ret1 rfl rfl ⟨by first | (rw [whole_exp ha he hb1 h2 he1' hE he2 hk2]; exact congrArg Value.bool (decide_eq_decide.2 (drop_nil (by omega)))) | (rw [whole_int ha he hb1 h2 he1' hE]; exact congrArg Value.bool (decide_eq_decide.2 (drop_nil (by omega)))), E⟩)))))))))))
        ·refine tW 2 rfl (Ln (e_K (hK93 _ _ _ _ (c_false rfl ?_))))
         have hS : (hasA s (e1 + 1) [43] || hasA s (e1 + 1) [45]) = false := by
          first | (rw [hasA_at hy_, hasA_at hy_, dF (fun h => hy1 (by rw [h]; rfl)), dF (fun h => hy2 (by rw [h]; rfl))]; rfl) | (rw [hasA_off (show s.length ≤ e1 + 1 by have := Classical.not_not.1 hn2; rw [drop_nil (by omega)] at this; omega) (by simp), hasA_off (show s.length ≤ e1 + 1 by have := Classical.not_not.1 hn2; rw [drop_nil (by omega)] at this; omega) (by simp)]; rfl)
         obtain ⟨e2, hee⟩ : ∃ e2, e2 = e1 + 1 := ⟨_, rfl⟩
         have he2 : e2 = if hasA s (e1 + 1) [43] || hasA s (e1 + 1) [45] then e1 + 2 else e1 + 1 := by rw [if_neg (by rw [hS]; simp)]; exact hee
         refine cK (e_K (hK92 _ _ _ _ (Cq fun K102 hK102 => ?_)))
         have hE2 : e2 ≤ s.length := by omega
         rw [← hee]
         have hgee2 := spanA_ge isDg s e2
         have hlee2 : spanA isDg s e2 ≤ s.length := spanA_le (by omega)
         refine Cr (Zm rfl (sc (oC ent205 rfl) (c_jdigits _ s e2 hs hE2) rfl fun v_ w21 h_ => ?_))
         obtain ⟨rfl, E_⟩ := h_
         replace E := E.then E_
         refine tW 5 rfl (Ln (e_K (hK102 _ _ _ _ (Cq fun K103 hK103 => Cr (tW 2 rfl (Ln (e_K (hK103 _ _ _ _ ?_))))))))
         refine c_if rfl (fun h68 => ?_) (fun h68 => ?_)
         ·have hk2 : spanA isDg s e2 = e2 := by omega
          exact Cq fun K104 hK104 => Cr (Za rfl (Ln (e_K (hK104 _ _ _ _ (cR (eT (by simp) (ret1 rfl rfl ⟨by rw [whole_bad3 ha he hb1 h2 he1' hE he2 hk2], E⟩)))))))
         ·have hk2 : ¬ spanA isDg s e2 = e2 := by omega
          exact cK (e_K (hK89 _ _ _ _ (Cq fun K105 hK105 => Cr (Zm rfl (Sv (o_seq rfl rfl) (Za rfl (Ln (e_K (hK105 _ _ _ _ (cR (ret1 rfl rfl ⟨by first | (rw [whole_exp ha he hb1 h2 he1' hE he2 hk2]; exact congrArg Value.bool (decide_eq_decide.2 (drop_nil (by omega)))) | (rw [whole_int ha he hb1 h2 he1' hE]; exact congrArg Value.bool (decide_eq_decide.2 (drop_nil (by omega)))), E⟩)))))))))))
      ·refine tW 10 rfl (Ln (e_K (hK93 _ _ _ _ (c_false rfl ?_))))
       have hS : (hasA s (e1 + 1) [43] || hasA s (e1 + 1) [45]) = false := by
        first | (rw [hasA_at hy_, hasA_at hy_, dF (fun h => hy1 (by rw [h]; rfl)), dF (fun h => hy2 (by rw [h]; rfl))]; rfl) | (rw [hasA_off (show s.length ≤ e1 + 1 by have := Classical.not_not.1 hn2; rw [drop_nil (by omega)] at this; omega) (by simp), hasA_off (show s.length ≤ e1 + 1 by have := Classical.not_not.1 hn2; rw [drop_nil (by omega)] at this; omega) (by simp)]; rfl)
       obtain ⟨e2, hee⟩ : ∃ e2, e2 = e1 + 1 := ⟨_, rfl⟩
       have he2 : e2 = if hasA s (e1 + 1) [43] || hasA s (e1 + 1) [45] then e1 + 2 else e1 + 1 := by rw [if_neg (by rw [hS]; simp)]; exact hee
       refine cK (e_K (hK92 _ _ _ _ (Cq fun K106 hK106 => ?_)))
       have hE2 : e2 ≤ s.length := by omega
       rw [← hee]
       have hgee2 := spanA_ge isDg s e2
       have hlee2 : spanA isDg s e2 ≤ s.length := spanA_le (by omega)
       refine Cr (Zm rfl (sc (oC ent205 rfl) (c_jdigits _ s e2 hs hE2) rfl fun v_ w22 h_ => ?_))
       obtain ⟨rfl, E_⟩ := h_
       replace E := E.then E_
       refine tW 5 rfl (Ln (e_K (hK106 _ _ _ _ (Cq fun K107 hK107 => Cr (tW 2 rfl (Ln (e_K (hK107 _ _ _ _ ?_))))))))
       refine c_if rfl (fun h68 => ?_) (fun h68 => ?_)
       ·have hk2 : spanA isDg s e2 = e2 := by omega
        exact Cq fun K108 hK108 => Cr (Za rfl (Ln (e_K (hK108 _ _ _ _ (cR (eT (by simp) (ret1 rfl rfl ⟨by rw [whole_bad3 ha he hb1 h2 he1' hE he2 hk2], E⟩)))))))
       ·have hk2 : ¬ spanA isDg s e2 = e2 := by omega
        exact cK (e_K (hK89 _ _ _ _ (Cq fun K109 hK109 => Cr (Zm rfl (Sv (o_seq rfl rfl) (Za rfl (Ln (e_K (hK109 _ _ _ _ (cR (ret1 rfl rfl ⟨by first | (rw [whole_exp ha he hb1 h2 he1' hE he2 hk2]; exact congrArg Value.bool (decide_eq_decide.2 (drop_nil (by omega)))) | (rw [whole_int ha he hb1 h2 he1' hE]; exact congrArg Value.bool (decide_eq_decide.2 (drop_nil (by omega)))), E⟩)))))))))))
     ·refine bE (dF (fun h => hx ((e_or32 x.toNat (UInt8.toNat_lt x)).1 h))) (Sv (oT rfl rfl rfl) (Ln (e_K (hK90 _ _ _ _ (c_false rfl ?_)))))
      have hE : (hasA s e1 [101] || hasA s e1 [69]) = false := by
       first | (rw [hasA_at hx_, hasA_at hx_, dF (fun h => hx (.inl (by rw [h]; rfl))), dF (fun h => hx (.inr (by rw [h]; rfl)))]; rfl) | (rw [hasA_off (show s.length ≤ e1 by have := Classical.not_not.1 hn1; rw [drop_nil (by omega)] at this; omega) (by simp), hasA_off (show s.length ≤ e1 by have := Classical.not_not.1 hn1; rw [drop_nil (by omega)] at this; omega) (by simp)]; rfl)
      exact cK (e_K (hK89 _ _ _ _ (Cq fun K110 hK110 => Cr (Zm rfl (Sv (o_seq rfl rfl) (Za rfl (Ln (e_K (hK110 _ _ _ _ (cR (ret1 rfl rfl ⟨by first | (rw [whole_exp ha he hb1 h2 he1' hE he2 hk2]; exact congrArg Value.bool (decide_eq_decide.2 (drop_nil (by omega)))) | (rw [whole_int ha he hb1 h2 he1' hE]; exact congrArg Value.bool (decide_eq_decide.2 (drop_nil (by omega)))), E⟩)))))))))))
    ·refine tW 6 rfl (Ln (e_K (hK90 _ _ _ _ (c_false rfl ?_))))
     have hE : (hasA s e1 [101] || hasA s e1 [69]) = false := by
      first | (rw [hasA_at hx_, hasA_at hx_, dF (fun h => hx (.inl (by rw [h]; rfl))), dF (fun h => hx (.inr (by rw [h]; rfl)))]; rfl) | (rw [hasA_off (show s.length ≤ e1 by have := Classical.not_not.1 hn1; rw [drop_nil (by omega)] at this; omega) (by simp), hasA_off (show s.length ≤ e1 by have := Classical.not_not.1 hn1; rw [drop_nil (by omega)] at this; omega) (by simp)]; rfl)
     exact cK (e_K (hK89 _ _ _ _ (Cq fun K111 hK111 => Cr (Zm rfl (Sv (o_seq rfl rfl) (Za rfl (Ln (e_K (hK111 _ _ _ _ (cR (ret1 rfl rfl ⟨by first | (rw [whole_exp ha he hb1 h2 he1' hE he2 hk2]; exact congrArg Value.bool (decide_eq_decide.2 (drop_nil (by omega)))) | (rw [whole_int ha he hb1 h2 he1' hE]; exact congrArg Value.bool (decide_eq_decide.2 (drop_nil (by omega)))), E⟩)))))))))))
end Go.Proofs.YtknndpjacklkeaaGreatDoor.V
