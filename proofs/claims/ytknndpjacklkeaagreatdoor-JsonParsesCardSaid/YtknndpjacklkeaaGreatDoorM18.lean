/-
  A part of the proof: walks of functions. No condition of its own.
-/
import Derived.Test.YtknndpjacklkeaaGreatDoorM17
import Derived.Test.YtknndpjacklkeaaGreatDoorM4
set_option linter.unusedVariables false
set_option linter.unusedSimpArgs false
set_option maxRecDepth 10000
namespace Go.Proofs.YtknndpjacklkeaaGreatDoor.V
open Go Go.Proofs
theorem ent184 : Ent Tryz.prog 184 := Ent.of Tryz.func184 (by kernel_rfl) (by kernel_rfl)
theorem ent101 : Ent Tryz.prog 101 := Ent.of Tryz.func101 (by kernel_rfl) (by kernel_rfl)
theorem c_blankR (w : World) (s : Str) (k : Nat) (hk : k ≤ s.length) (hs : s.length ≤ 1000000) : Calls Tryz.prog 55 [S s, .int .i64 (k : Int)].toArray w (Ret fun u w' => u = .int .i64 ((spanA isWs s k : Nat) : Int) ∧ Mod [] w w') := by
 refine enter Tryz.func55 rfl rfl rfl (l := [(0, _), (1, _)]) ⟨rfl, rfl, trivial⟩ ?_
 have E := Mod.refl [] w
 refine Cq fun K1 hK1 => Cr (Za rfl (Ln (e_K (hK1 _ _ _ _ (Cq fun K2 hK2 => cB (c_loop (σ := Nat) (fun p => [(0, S s), (1, .int .i64 (p : Int))]) (fun p w1 => (k ≤ p ∧ p ≤ s.length ∧ spanA isWs s p = spanA isWs s k) ∧ Mod [] w w1) (fun p => s.length - p) (k) ⟨rfl, rfl, trivial⟩ (⟨⟨Nat.le_refl _, hk, rfl⟩, E⟩) ?_))))))
 rintro p w1 ⟨⟨hkp, hp, hsp⟩, E⟩
 refine Cq fun K3 hK3 => Cq fun K4 hK4 => Cr (tW 2 rfl (Sv (o_slen Tryz.underlying9 rfl) (Sv (o_lss rfl rfl) ?_)))
 refine bD (fun hlt : (p : Int) < (s.length : Int) => ?_) (fun hlt => ?_)
 ·obtain ⟨c, hc⟩ : ∃ c, s[p]? = some c := ⟨_, List.getElem?_eq_getElem (by omega)⟩
  have hcl := c.toNat_lt
  refine tW 3 rfl (Sg rfl rfl (o_sidx Tryz.underlying9 rfl rfl (by omega) (by rw [Int.toNat_natCast]; exact hc)) (Sg rfl rfl (oE rfl rfl) ?_))
  refine bD (fun h1 : (c.toNat : Int) = 32 => ?_) (fun h1 => ?_)
  ·refine tW 19 rfl (Ln (e_K (hK4 _ _ _ _ (c_true rfl ?_))))
   have hws : isWs c = true := wsB_yes (by omega)
   exact cK (e_K (hK3 _ _ _ _ (cB (Cr (Zm rfl (Sv (o_addE (r := ((p + 1 : Nat) : Int)) rfl rfl (by rw [wrap64_in _ (by omega)]; omega)) (Za rfl (Ln (eI (by simp) (eR (σ := Nat) (s := p) (p + 1) ⟨rfl, rfl, trivial⟩ ⟨⟨by omega, by omega, by rw [spanA_go hc hws]; exact hsp⟩, E⟩ (by omega)))))))))))
  ·refine tW 3 rfl (Sg rfl rfl (o_sidx Tryz.underlying9 rfl rfl (by omega) (by rw [Int.toNat_natCast]; exact hc)) (Sg rfl rfl (oE rfl rfl) ?_))
   refine bD (fun h2 : (c.toNat : Int) = 9 => ?_) (fun h2 => ?_)
   ·refine tW 14 rfl (Ln (e_K (hK4 _ _ _ _ (c_true rfl ?_))))
    have hws : isWs c = true := wsB_yes (by omega)
    exact cK (e_K (hK3 _ _ _ _ (cB (Cr (Zm rfl (Sv (o_addE (r := ((p + 1 : Nat) : Int)) rfl rfl (by rw [wrap64_in _ (by omega)]; omega)) (Za rfl (Ln (eI (by simp) (eR (σ := Nat) (s := p) (p + 1) ⟨rfl, rfl, trivial⟩ ⟨⟨by omega, by omega, by rw [spanA_go hc hws]; exact hsp⟩, E⟩ (by omega)))))))))))
   ·refine tW 4 rfl (Sg rfl rfl (o_sidx Tryz.underlying9 rfl rfl (by omega) (by rw [Int.toNat_natCast]; exact hc)) (Sg rfl rfl (oE rfl rfl) ?_))
    refine bD (fun h3 : (c.toNat : Int) = 10 => ?_) (fun h3 => ?_)
    ·refine tW 8 rfl (Ln (e_K (hK4 _ _ _ _ (c_true rfl ?_))))
     have hws : isWs c = true := wsB_yes (by omega)
     exact cK (e_K (hK3 _ _ _ _ (cB (Cr (Zm rfl (Sv (o_addE (r := ((p + 1 : Nat) : Int)) rfl rfl (by rw [wrap64_in _ (by omega)]; omega)) (Za rfl (Ln (eI (by simp) (eR (σ := Nat) (s := p) (p + 1) ⟨rfl, rfl, trivial⟩ ⟨⟨by omega, by omega, by rw [spanA_go hc hws]; exact hsp⟩, E⟩ (by omega)))))))))))
    ·refine tW 4 rfl (Sg rfl rfl (o_sidx Tryz.underlying9 rfl rfl (by omega) (by rw [Int.toNat_natCast]; exact hc)) (Sg rfl rfl (oE rfl rfl) ?_))
     refine bD (fun h4 : (c.toNat : Int) = 13 => ?_) (fun h4 => ?_)
     ·refine tW 2 rfl (Ln (e_K (hK4 _ _ _ _ (c_true rfl ?_))))
      have hws : isWs c = true := wsB_yes (by omega)
      exact cK (e_K (hK3 _ _ _ _ (cB (Cr (Zm rfl (Sv (o_addE (r := ((p + 1 : Nat) : Int)) rfl rfl (by rw [wrap64_in _ (by omega)]; omega)) (Za rfl (Ln (eI (by simp) (eR (σ := Nat) (s := p) (p + 1) ⟨rfl, rfl, trivial⟩ ⟨⟨by omega, by omega, by rw [spanA_go hc hws]; exact hsp⟩, E⟩ (by omega)))))))))))
     ·refine tW 2 rfl (Ln (e_K (hK4 _ _ _ _ (c_false rfl ?_))))
      have hpe : p = spanA isWs s k := by
       rw [← hsp]
       first | exact (spanA_end (by omega)).symm | exact (spanA_stop hc (wsB_not (by omega))).symm
      exact c_exit (eT (by simp) (eT (by simp) (e_hit (e_K (hK2 _ _ _ _ (Cq fun K5 hK5 => Cr (tW 2 rfl (Ln (e_K (hK5 _ _ _ _ (cR (ret1 rfl rfl ⟨by rw [← hpe], E⟩))))))))))))
 ·refine tW 24 rfl (Ln (e_K (hK4 _ _ _ _ (c_false rfl ?_))))
  have hpe : p = spanA isWs s k := by
   rw [← hsp]
   first | exact (spanA_end (by omega)).symm | exact (spanA_stop hc (wsB_not (by omega))).symm
  exact c_exit (eT (by simp) (eT (by simp) (e_hit (e_K (hK2 _ _ _ _ (Cq fun K6 hK6 => Cr (tW 2 rfl (Ln (e_K (hK6 _ _ _ _ (cR (ret1 rfl rfl ⟨by rw [← hpe], E⟩))))))))))))

theorem c_digR (w : World) (s : Str) (k : Nat) (hk : k ≤ s.length) (hs : s.length ≤ 1000000) : Calls Tryz.prog 184 [S s, .int .i64 (k : Int)].toArray w (Ret fun u w' => u = .int .i64 ((spanA isDg s k : Nat) : Int) ∧ Mod [] w w') := by
 refine enter Tryz.func184 rfl rfl rfl (l := [(0, _), (1, _)]) ⟨rfl, rfl, trivial⟩ ?_
 have E := Mod.refl [] w
 refine Cq fun K1 hK1 => Cr (Za rfl (Ln (e_K (hK1 _ _ _ _ (Cq fun K2 hK2 => cB (c_loop (σ := Nat) (fun p => [(0, S s), (1, .int .i64 (p : Int))]) (fun p w1 => (k ≤ p ∧ p ≤ s.length ∧ spanA isDg s p = spanA isDg s k) ∧ Mod [] w w1) (fun p => s.length - p) (k) ⟨rfl, rfl, trivial⟩ (⟨⟨Nat.le_refl _, hk, rfl⟩, E⟩) ?_))))))
 rintro p w1 ⟨⟨hkp, hp, hsp⟩, E⟩
 refine Cq fun K3 hK3 => Cq fun K4 hK4 => Cr (tW 2 rfl (Sv (o_slen Tryz.underlying9 rfl) (Sv (o_lss rfl rfl) ?_)))
 refine bD (fun hlt : (p : Int) < (s.length : Int) => ?_) (fun hlt => ?_)
 ·obtain ⟨c, hc⟩ : ∃ c, s[p]? = some c := ⟨_, List.getElem?_eq_getElem (by omega)⟩
  have hcl := c.toNat_lt
  refine tW 3 rfl (Sg rfl rfl (o_sidx Tryz.underlying9 rfl rfl (by omega) (by rw [Int.toNat_natCast]; exact hc)) (Sg rfl rfl (o_geq rfl rfl) ?_))
  refine bD (fun h1 : (c.toNat : Int) ≥ 48 => ?_) (fun h1 => ?_)
  ·refine tW 4 rfl (Sg rfl rfl (o_sidx Tryz.underlying9 rfl rfl (by omega) (by rw [Int.toNat_natCast]; exact hc)) (Sg rfl rfl (o_leq rfl rfl) ?_))
   refine bD (fun h2 : (c.toNat : Int) ≤ 57 => ?_) (fun h2 => ?_)
   ·refine Sv (oT rfl rfl rfl) (Ln (e_K (hK4 _ _ _ _ (c_true rfl ?_))))
    have hws : isDg c = true := dg_yes (by omega)
    exact cK (e_K (hK3 _ _ _ _ (cB (Cr (Zm rfl (Sv (o_addE (r := ((p + 1 : Nat) : Int)) rfl rfl (by rw [wrap64_in _ (by omega)]; omega)) (Za rfl (Ln (eI (by simp) (eR (σ := Nat) (s := p) (p + 1) ⟨rfl, rfl, trivial⟩ ⟨⟨by omega, by omega, by rw [spanA_go hc hws]; exact hsp⟩, E⟩ (by omega)))))))))))
   ·refine Sv (oT rfl rfl rfl) (Ln (e_K (hK4 _ _ _ _ (c_false rfl ?_))))
    have hpe : p = spanA isDg s k := by
     rw [← hsp]
     first | exact (spanA_end (by omega)).symm | exact (spanA_stop hc (dg_not (by omega))).symm
    exact c_exit (eT (by simp) (eT (by simp) (e_hit (e_K (hK2 _ _ _ _ (Cq fun K5 hK5 => Cr (tW 2 rfl (Ln (e_K (hK5 _ _ _ _ (cR (ret1 rfl rfl ⟨by rw [← hpe], E⟩))))))))))))
  ·refine tW 7 rfl (Ln (e_K (hK4 _ _ _ _ (c_false rfl ?_))))
   have hpe : p = spanA isDg s k := by
    rw [← hsp]
    first | exact (spanA_end (by omega)).symm | exact (spanA_stop hc (dg_not (by omega))).symm
   exact c_exit (eT (by simp) (eT (by simp) (e_hit (e_K (hK2 _ _ _ _ (Cq fun K6 hK6 => Cr (tW 2 rfl (Ln (e_K (hK6 _ _ _ _ (cR (ret1 rfl rfl ⟨by rw [← hpe], E⟩))))))))))))
 ·refine tW 12 rfl (Ln (e_K (hK4 _ _ _ _ (c_false rfl ?_))))
  have hpe : p = spanA isDg s k := by
   rw [← hsp]
   first | exact (spanA_end (by omega)).symm | exact (spanA_stop hc (dg_not (by omega))).symm
  exact c_exit (eT (by simp) (eT (by simp) (e_hit (e_K (hK2 _ _ _ _ (Cq fun K7 hK7 => Cr (tW 2 rfl (Ln (e_K (hK7 _ _ _ _ (cR (ret1 rfl rfl ⟨by rw [← hpe], E⟩))))))))))))

theorem c_hasR (w : World) (s t : Str) (k : Nat) (hk : k ≤ s.length) (hs : s.length ≤ 1000000) : Calls Tryz.prog 101 [S s, .int .i64 (k : Int), S t].toArray w (Ret fun u w' => u = .bool (hasA s k t) ∧ Mod [] w w') := by
 refine enter Tryz.func101 rfl rfl rfl (l := [(0, _), (1, _), (2, _)]) ⟨rfl, rfl, rfl, trivial⟩ ?_
 have E := Mod.refl [] w
 refine Cq fun K1 hK1 => Cr (Za rfl (Ln (e_K (hK1 _ _ _ _ (Cq fun K2 hK2 => Cr (Zm rfl (Sv (o_slen Tryz.underlying9 rfl) (Zm rfl (Sv (o_subN rfl rfl (by omega)) (Zm rfl (Sv (o_slen Tryz.underlying9 rfl) (Sv (o_geq rfl rfl) ?_))))))))))))
 refine bD (fun hge : ((s.length : Int) - (k : Int)) ≥ (t.length : Int) => ?_) (fun hge => ?_)
 ·exact tW 5 rfl (Sg rfl rfl (o_slen Tryz.underlying9 rfl) (Sg rfl rfl (o_addE (r := ((k + t.length : Nat) : Int)) rfl rfl (by rw [wrap64_in _ (by omega)]; omega)) (Sg rfl rfl ((o_ssl Tryz.underlying9 rfl rfl rfl (by simp only [loV, hiV]; omega)).to (v' := S ((s.drop k).take t.length)) (by simp only [loV, hiV, Int.toNat_natCast]; rw [Nat.add_sub_cancel_left])) (Sg rfl rfl (oM rfl) (Sg rfl rfl (o_seq rfl rfl) (tW 2 rfl (Ln (e_K (hK2 _ _ _ _ (cR (ret1 rfl rfl ⟨by first | (rw [hh]) | (rw [hasA_dec]), E⟩)))))))))))
 ·have hh : hasA s k t = false := hasA_no (by omega) hk
  exact tW 12 rfl (Ln (e_K (hK2 _ _ _ _ (cR (ret1 rfl rfl ⟨by first | (rw [hh]) | (rw [hasA_dec]), E⟩)))))

set_option maxHeartbeats 2000000 in
theorem c_wholeR (w : World) (s : Str) (hs : s.length ≤ 1000000) : Calls Tryz.prog 150 [S s].toArray w (Ret fun u w' => u = .tuple #[.bool (wholeA s).1, .bool (wholeA s).2] ∧ Mod [] w w') := by
 refine enter Tryz.func150 rfl rfl rfl (l := [(0, _)]) ⟨rfl, trivial⟩ ?_
 have E := Mod.refl [] w
 refine Cq fun K1 hK1 => Cr (tW 2 rfl (Ln (e_K (hK1 _ _ _ _ (Cq fun K2 hK2 => Cr (Za rfl (Ln (e_K (hK2 _ _ _ _ (Cq fun K3 hK3 => ?_))))))))))
 have J3 : ∀ (a0 : Nat) (w1 : World), a0 = (if hasA s 0 [45] then 1 else 0) ∧ Mod [] w w1 → ∀ a, Has 73 [] [(0, S s), (4, .int .i64 (a0 : Int))] a → K3 a w1 := by
  intro a0 w1 hI
  obtain ⟨ha, E⟩ := hI
  refine hK3 _ _ _ _ (Cq fun K4 hK4 => ?_)
  have hal : a0 ≤ s.length := has_len0 ha
  refine Cr (tW 2 rfl (sc (oC ent184 rfl) (c_digR _ s a0 hal hs) rfl fun v_ w2 h_ => ?_))
  obtain ⟨rfl, E_⟩ := h_
  replace E := E.then E_
  obtain ⟨e, he⟩ : ∃ e, e = spanA isDg s a0 := ⟨_, rfl⟩
  rw [← he]
  have hge := spanA_ge isDg s a0
  have hle : spanA isDg s a0 ≤ s.length := spanA_le hal
  rw [← he] at hge hle
  refine Za rfl (Ln (e_K (hK4 _ _ _ _ (Cq fun K5 hK5 => Cq fun K6 hK6 => Cr (tW 3 rfl ?_)))))
  refine bD (fun h1 : (e : Int) = (a0 : Int) => ?_) (fun h1 => ?_)
  ·refine tW 12 rfl (Ln (e_K (hK6 _ _ _ _ (c_true rfl ?_))))
   have hR := wh_bad1 ha he (by first | exact .inl (by omega) | exact .inr ⟨by omega, by rw [hc, u8_eq (show (c.toNat : Int) = (48 : UInt8).toNat from h3)]⟩)
   exact Cq fun K7 hK7 => Cr (tW 2 rfl (Ln (e_K (hK7 _ _ _ _ (cR (eT (by simp) (ret2 rfl rfl rfl ⟨by rw [hR], E⟩)))))))
  ·refine tW 3 rfl (Sg rfl rfl (o_addE (r := ((a0 + 1 : Nat) : Int)) rfl rfl (by rw [wrap64_in _ (by omega)]; omega)) (Sg rfl rfl (o_gtr rfl rfl) ?_))
   refine bD (fun h2 : (e : Int) > ((a0 + 1 : Nat) : Int) => ?_) (fun h2 => ?_)
   ·obtain ⟨c, hc⟩ : ∃ c, s[a0]? = some c := ⟨_, List.getElem?_eq_getElem (by omega)⟩
    refine tW 3 rfl (Sg rfl rfl (o_sidx Tryz.underlying9 rfl rfl (by omega) (by rw [Int.toNat_natCast]; exact hc)) (Sg rfl rfl (oE rfl rfl) ?_))
    refine bD (fun h3 : (c.toNat : Int) = 48 => ?_) (fun h3 => ?_)
    ·refine tW 2 rfl (Ln (e_K (hK6 _ _ _ _ (c_true rfl ?_))))
     have hR := wh_bad1 ha he (by first | exact .inl (by omega) | exact .inr ⟨by omega, by rw [hc, u8_eq (show (c.toNat : Int) = (48 : UInt8).toNat from h3)]⟩)
     exact Cq fun K8 hK8 => Cr (tW 2 rfl (Ln (e_K (hK8 _ _ _ _ (cR (eT (by simp) (ret2 rfl rfl rfl ⟨by rw [hR], E⟩)))))))
    ·refine tW 2 rfl (Ln (e_K (hK6 _ _ _ _ (c_false rfl ?_))))
     have hno : ¬ (e = a0 ∨ (a0 + 1 < e ∧ s[a0]? = some 48)) := by
      rintro (h | ⟨h, h'⟩)
      ·omega
      ·first | omega | (rw [hc] at h'; injection h' with h'; subst h'; exact h3 rfl)
     refine cK (e_K (hK5 _ _ _ _ (Cq fun K9 hK9 => Cr (Za rfl (Ln (e_K (hK9 _ _ _ _ (Cq fun K10 hK10 => ?_))))))))
     have J10 : ∀ (e1 : Nat) (m : Bool) (w1 : World), m = hasA s e [46] ∧ e1 = (if hasA s e [46] then spanA isDg s (e + 1) else e) ∧ ¬ (hasA s e [46] = true ∧ spanA isDg s (e + 1) = e + 1) ∧ e1 ≤ s.length ∧ Mod [] w w1 → ∀ a, Has 73 [] [(0, S s), (5, .int .i64 (e1 : Int)), (6, .bool m)] a → K10 a w1 := by
      intro e1 m w3 hI
      obtain ⟨rfl, he1, hno2, hl1, E⟩ := hI
      refine hK10 _ _ _ _ (Cq fun K11 hK11 => ?_)
      have J11 : ∀ (e3 : Nat) (m3 : Bool) (w1 : World), wholeA s = (decide (e3 = s.length), m3) ∧ Mod [] w w1 → ∀ a, Has 73 [] [(0, S s), (5, .int .i64 (e3 : Int)), (6, .bool m3)] a → K11 a w1 := by
       intro e3 m3 w4 hI
       obtain ⟨hW, E⟩ := hI
       exact hK11 _ _ _ _ (Cq fun K12 hK12 => Cr (tW 2 rfl (Sv (o_slen Tryz.underlying9 rfl) (tW 4 rfl (Ln (e_K (hK12 _ _ _ _ (cR (ret2 rfl rfl rfl ⟨by rw [hW]; congr 2; simp; omega, E⟩)))))))))
      refine Cq fun K13 hK13 => Cr (tW 2 rfl (sc (oC ent101 rfl) (c_hasR _ s [101] e1 hl1 hs) rfl fun v_ w5 h_ => ?_))
      obtain ⟨rfl, E_⟩ := h_
      replace E := E.then E_
      refine bC (fun hx1 : (hasA s e1 [101]) = true => ?_) (fun hx1 => ?_)
      ·refine tW 5 rfl (Ln (e_K (hK13 _ _ _ _ (c_true rfl ?_))))
       have hE : (hasA s e1 [101] || hasA s e1 [69]) = true := by first | (simp only [hx1, Bool.true_or]; done) | (simp only [hx1, Bool.false_or]; first | exact hx2 | exact h48)
       have he1l : e1 + 1 ≤ s.length := by rcases Bool.or_eq_true_iff.1 hE with h | h <;> exact hasA_len h (by simp)
       refine Cq fun K14 hK14 => Cr (Za rfl (Ln (e_K (hK14 _ _ _ _ (Cq fun K15 hK15 => Cr (Zm rfl (Sv (o_addE (r := ((e1 + 1 : Nat) : Int)) rfl rfl (by rw [wrap64_in _ (by omega)]; omega)) (Za rfl (Ln (e_K (hK15 _ _ _ _ (Cq fun K16 hK16 => ?_))))))))))))
       have J16 : ∀ (e2 : Nat) (w1 : World), e2 = (if hasA s (e1 + 1) [43] || hasA s (e1 + 1) [45] then e1 + 2 else e1 + 1) ∧ e2 ≤ s.length ∧ Mod [] w w1 → ∀ a, Has 73 [] [(0, S s), (5, .int .i64 (e2 : Int)), (6, .bool true)] a → K16 a w1 := by
        intro e2 w6 hI
        obtain ⟨he2, hl2, E⟩ := hI
        refine hK16 _ _ _ _ (Cq fun K17 hK17 => Cr (tW 2 rfl (sc (oC ent184 rfl) (c_digR _ s e2 hl2 hs) rfl fun v_ w7 h_ => ?_)))
        obtain ⟨rfl, E_⟩ := h_
        replace E := E.then E_
        refine Za rfl (Ln (e_K (hK17 _ _ _ _ (Cq fun K18 hK18 => Cq fun K19 hK19 => Cr (tW 3 rfl (Ln (e_K (hK19 _ _ _ _ ?_))))))))
        refine c_if rfl (fun h66 => ?_) (fun h66 => ?_)
        ·have hR := wh_bad3 ha he hno hno2 he1 hE he2 (by omega)
         exact Cq fun K20 hK20 => Cr (tW 2 rfl (Ln (e_K (hK20 _ _ _ _ (cR (eT (by simp) (eT (by simp) (ret2 rfl rfl rfl ⟨by rw [hR], E⟩))))))))
        ·have hW_ := wh_exp ha he hno hno2 he1 hE he2 (by omega)
         refine cK (e_K (hK18 _ _ _ _ (Cr (tW 2 rfl (Ln ?_)))))
         refine WE.sub (l' := [(0, _), (5, _), (6, _)]) ⟨rfl, rfl, rfl, trivial⟩ (e_K (J11 (spanA isDg s e2) true w7 ⟨hW_, E⟩))
       refine Cq fun K21 hK21 => Cr (tW 2 rfl (sc (oC ent101 rfl) (c_hasR _ s [43] (e1 + 1) he1l hs) rfl fun v_ w8 h_ => ?_))
       obtain ⟨rfl, E_⟩ := h_
       replace E := E.then E_
       refine bC (fun hy1 : (hasA s (e1 + 1) [43]) = true => ?_) (fun hy1 => ?_)
       ·refine tW 5 rfl (Ln (e_K (hK21 _ _ _ _ (c_true rfl ?_))))
        have hS : (hasA s (e1 + 1) [43] || hasA s (e1 + 1) [45]) = true := by first | (simp only [hy1, Bool.true_or]; done) | (simp only [hy1, Bool.false_or]; first | exact hy2 | exact h58)
        have he2_ : e1 + 2 = (if hasA s (e1 + 1) [43] || hasA s (e1 + 1) [45] then e1 + 2 else e1 + 1) := by rw [if_pos hS]
        have hl2_ : e1 + 1 + 1 ≤ s.length := by rcases Bool.or_eq_true_iff.1 hS with h | h <;> exact hasA_len h (by simp)
        refine Cr (Zm rfl (Sv (o_addE (r := (((e1 + 1) + 1 : Nat) : Int)) rfl rfl (by rw [wrap64_in _ (by omega)]; omega)) (Za rfl (Ln ?_))))
        refine WE.sub (l' := [(0, _), (5, _), (6, _)]) ⟨rfl, rfl, rfl, trivial⟩ (e_K (J16 (e1 + 2) w8 ⟨he2_, by omega, E⟩))
       ·refine tW 3 rfl (sgc rfl rfl (oC ent101 rfl) (c_hasR _ s [45] (e1 + 1) he1l hs) rfl fun v_ w9 h_ => ?_)
        obtain ⟨rfl, E_⟩ := h_
        replace E := E.then E_
        refine bC (fun hy2 : (hasA s (e1 + 1) [45]) = true => ?_) (fun hy2 => ?_)
        ·refine Sv (oF rfl rfl rfl) (Ln (e_K (hK21 _ _ _ _ (c_true rfl ?_))))
         have h58 := hy2
         have hS : (hasA s (e1 + 1) [43] || hasA s (e1 + 1) [45]) = true := by first | (simp only [hy1, Bool.true_or]; done) | (simp only [hy1, Bool.false_or]; first | exact hy2 | exact h58)
         have he2_ : e1 + 2 = (if hasA s (e1 + 1) [43] || hasA s (e1 + 1) [45] then e1 + 2 else e1 + 1) := by rw [if_pos hS]
         have hl2_ : e1 + 1 + 1 ≤ s.length := by rcases Bool.or_eq_true_iff.1 hS with h | h <;> exact hasA_len h (by simp)
         refine Cr (Zm rfl (Sv (o_addE (r := (((e1 + 1) + 1 : Nat) : Int)) rfl rfl (by rw [wrap64_in _ (by omega)]; omega)) (Za rfl (Ln ?_))))
         refine WE.sub (l' := [(0, _), (5, _), (6, _)]) ⟨rfl, rfl, rfl, trivial⟩ (e_K (J16 (e1 + 2) w9 ⟨he2_, by omega, E⟩))
        ·refine Sv (oF rfl rfl rfl) (Ln (e_K (hK21 _ _ _ _ (c_false rfl ?_))))
         have h58 := hy2
         have hS : (hasA s (e1 + 1) [43] || hasA s (e1 + 1) [45]) = false := by simp only [hy1, Bool.false_or]; first | exact hy2 | exact h58
         have he2_ : e1 + 1 = (if hasA s (e1 + 1) [43] || hasA s (e1 + 1) [45] then e1 + 2 else e1 + 1) := by rw [hS]; rfl
         refine cK ?_
         refine WE.sub (l' := [(0, _), (5, _), (6, _)]) ⟨rfl, rfl, rfl, trivial⟩ (e_K (J16 (e1 + 1) w9 ⟨he2_, by omega, E⟩))
      ·refine tW 3 rfl (sgc rfl rfl (oC ent101 rfl) (c_hasR _ s [69] e1 hl1 hs) rfl fun v_ w10 h_ => ?_)
       obtain ⟨rfl, E_⟩ := h_
       replace E := E.then E_
       refine bC (fun hx2 : (hasA s e1 [69]) = true => ?_) (fun hx2 => ?_)
       ·refine Sv (oF rfl rfl rfl) (Ln (e_K (hK13 _ _ _ _ (c_true rfl ?_))))
        have h48 := hx2
        have hE : (hasA s e1 [101] || hasA s e1 [69]) = true := by first | (simp only [hx1, Bool.true_or]; done) | (simp only [hx1, Bool.false_or]; first | exact hx2 | exact h48)
        have he1l : e1 + 1 ≤ s.length := by rcases Bool.or_eq_true_iff.1 hE with h | h <;> exact hasA_len h (by simp)
        refine Cq fun K22 hK22 => Cr (Za rfl (Ln (e_K (hK22 _ _ _ _ (Cq fun K23 hK23 => Cr (Zm rfl (Sv (o_addE (r := ((e1 + 1 : Nat) : Int)) rfl rfl (by rw [wrap64_in _ (by omega)]; omega)) (Za rfl (Ln (e_K (hK23 _ _ _ _ (Cq fun K24 hK24 => ?_))))))))))))
        have J24 : ∀ (e2 : Nat) (w1 : World), e2 = (if hasA s (e1 + 1) [43] || hasA s (e1 + 1) [45] then e1 + 2 else e1 + 1) ∧ e2 ≤ s.length ∧ Mod [] w w1 → ∀ a, Has 73 [] [(0, S s), (5, .int .i64 (e2 : Int)), (6, .bool true)] a → K24 a w1 := by
         intro e2 w11 hI
         obtain ⟨he2, hl2, E⟩ := hI
         refine hK24 _ _ _ _ (Cq fun K25 hK25 => Cr (tW 2 rfl (sc (oC ent184 rfl) (c_digR _ s e2 hl2 hs) rfl fun v_ w12 h_ => ?_)))
         obtain ⟨rfl, E_⟩ := h_
         replace E := E.then E_
         refine Za rfl (Ln (e_K (hK25 _ _ _ _ (Cq fun K26 hK26 => Cq fun K27 hK27 => Cr (tW 3 rfl (Ln (e_K (hK27 _ _ _ _ ?_))))))))
         refine c_if rfl (fun h66 => ?_) (fun h66 => ?_)
         ·have hR := wh_bad3 ha he hno hno2 he1 hE he2 (by omega)
          exact Cq fun K28 hK28 => Cr (tW 2 rfl (Ln (e_K (hK28 _ _ _ _ (cR (eT (by simp) (eT (by simp) (ret2 rfl rfl rfl ⟨by rw [hR], E⟩))))))))
         ·have hW_ := wh_exp ha he hno hno2 he1 hE he2 (by omega)
          refine cK (e_K (hK26 _ _ _ _ (Cr (tW 2 rfl (Ln ?_)))))
          refine WE.sub (l' := [(0, _), (5, _), (6, _)]) ⟨rfl, rfl, rfl, trivial⟩ (e_K (J11 (spanA isDg s e2) true w12 ⟨hW_, E⟩))
        refine Cq fun K29 hK29 => Cr (tW 2 rfl (sc (oC ent101 rfl) (c_hasR _ s [43] (e1 + 1) he1l hs) rfl fun v_ w13 h_ => ?_))
        obtain ⟨rfl, E_⟩ := h_
        replace E := E.then E_
        refine bC (fun hy1 : (hasA s (e1 + 1) [43]) = true => ?_) (fun hy1 => ?_)
        ·refine tW 5 rfl (Ln (e_K (hK29 _ _ _ _ (c_true rfl ?_))))
         have hS : (hasA s (e1 + 1) [43] || hasA s (e1 + 1) [45]) = true := by first | (simp only [hy1, Bool.true_or]; done) | (simp only [hy1, Bool.false_or]; first | exact hy2 | exact h58)
         have he2_ : e1 + 2 = (if hasA s (e1 + 1) [43] || hasA s (e1 + 1) [45] then e1 + 2 else e1 + 1) := by rw [if_pos hS]
         have hl2_ : e1 + 1 + 1 ≤ s.length := by rcases Bool.or_eq_true_iff.1 hS with h | h <;> exact hasA_len h (by simp)
         refine Cr (Zm rfl (Sv (o_addE (r := (((e1 + 1) + 1 : Nat) : Int)) rfl rfl (by rw [wrap64_in _ (by omega)]; omega)) (Za rfl (Ln ?_))))
         refine WE.sub (l' := [(0, _), (5, _), (6, _)]) ⟨rfl, rfl, rfl, trivial⟩ (e_K (J24 (e1 + 2) w13 ⟨he2_, by omega, E⟩))
        ·refine tW 3 rfl (sgc rfl rfl (oC ent101 rfl) (c_hasR _ s [45] (e1 + 1) he1l hs) rfl fun v_ w14 h_ => ?_)
         obtain ⟨rfl, E_⟩ := h_
         replace E := E.then E_
         refine bC (fun hy2 : (hasA s (e1 + 1) [45]) = true => ?_) (fun hy2 => ?_)
         ·refine Sv (oF rfl rfl rfl) (Ln (e_K (hK29 _ _ _ _ (c_true rfl ?_))))
          have h58 := hy2
          have hS : (hasA s (e1 + 1) [43] || hasA s (e1 + 1) [45]) = true := by first | (simp only [hy1, Bool.true_or]; done) | (simp only [hy1, Bool.false_or]; first | exact hy2 | exact h58)
          have he2_ : e1 + 2 = (if hasA s (e1 + 1) [43] || hasA s (e1 + 1) [45] then e1 + 2 else e1 + 1) := by rw [if_pos hS]
          have hl2_ : e1 + 1 + 1 ≤ s.length := by rcases Bool.or_eq_true_iff.1 hS with h | h <;> exact hasA_len h (by simp)
          refine Cr (Zm rfl (Sv (o_addE (r := (((e1 + 1) + 1 : Nat) : Int)) rfl rfl (by rw [wrap64_in _ (by omega)]; omega)) (Za rfl (Ln ?_))))
          refine WE.sub (l' := [(0, _), (5, _), (6, _)]) ⟨rfl, rfl, rfl, trivial⟩ (e_K (J24 (e1 + 2) w14 ⟨he2_, by omega, E⟩))
         ·refine Sv (oF rfl rfl rfl) (Ln (e_K (hK29 _ _ _ _ (c_false rfl ?_))))
          have h58 := hy2
          have hS : (hasA s (e1 + 1) [43] || hasA s (e1 + 1) [45]) = false := by simp only [hy1, Bool.false_or]; first | exact hy2 | exact h58
          have he2_ : e1 + 1 = (if hasA s (e1 + 1) [43] || hasA s (e1 + 1) [45] then e1 + 2 else e1 + 1) := by rw [hS]; rfl
          refine cK ?_
          refine WE.sub (l' := [(0, _), (5, _), (6, _)]) ⟨rfl, rfl, rfl, trivial⟩ (e_K (J24 (e1 + 1) w14 ⟨he2_, by omega, E⟩))
       ·refine Sv (oF rfl rfl rfl) (Ln (e_K (hK13 _ _ _ _ (c_false rfl ?_))))
        have h48 := hx2
        have hE : (hasA s e1 [101] || hasA s e1 [69]) = false := by simp only [hx1, Bool.false_or]; first | exact hx2 | exact h48
        have hW_ := wh_int ha he hno hno2 he1 hE
        refine cK ?_
        refine WE.sub (l' := [(0, _), (5, _), (6, _)]) ⟨rfl, rfl, rfl, trivial⟩ (e_K (J11 e1 (hasA s e [46]) w10 ⟨hW_, E⟩))
     refine Cq fun K30 hK30 => Cr (tW 2 rfl (sc (oC ent101 rfl) (c_hasR _ s [46] e hle hs) rfl fun v_ w15 h_ => ?_))
     obtain ⟨rfl, E_⟩ := h_
     replace E := E.then E_
     refine Ln (e_K (hK30 _ _ _ _ ?_))
     refine c_cond rfl (fun h31 => ?_) (fun h31 => ?_)
     ·have hel : e + 1 ≤ s.length := hasA_len (t := [46]) h31 (by simp)
      refine Cq fun K31 hK31 => Cr (Za rfl (Ln (e_K (hK31 _ _ _ _ (Cq fun K32 hK32 => Cr (tW 2 rfl (Sv (o_addE (r := ((e + 1 : Nat) : Int)) rfl rfl (by rw [wrap64_in _ (by omega)]; omega)) (sc (oC ent184 rfl) (c_digR _ s (e + 1) hel hs) rfl fun v_ w16 h_ => ?_))))))))
      obtain ⟨rfl, E_⟩ := h_
      replace E := E.then E_
      have hl1_ : spanA isDg s (e + 1) ≤ s.length := spanA_le hel
      refine Za rfl (Ln (e_K (hK32 _ _ _ _ (Cq fun K33 hK33 => Cq fun K34 hK34 => Cr (tW 2 rfl (Sv (o_addE (r := ((e + 1 : Nat) : Int)) rfl rfl (by rw [wrap64_in _ (by omega)]; omega)) (Sv (oE rfl rfl) (Ln (e_K (hK34 _ _ _ _ ?_))))))))))
      refine c_if rfl (fun h39 => ?_) (fun h39 => ?_)
      ·have hR := wh_bad2 ha he hno h31 (by omega)
       exact Cq fun K35 hK35 => Cr (tW 2 rfl (Ln (e_K (hK35 _ _ _ _ (cR (eT (by simp) (eT (by simp) (ret2 rfl rfl rfl ⟨by rw [hR], E⟩))))))))
      ·have hk1 : ¬ spanA isDg s (e + 1) = e + 1 := by omega
       refine cK (e_K (hK33 _ _ _ _ (Cr (tW 2 rfl (Ln ?_)))))
       refine WE.sub (l' := [(0, _), (5, _), (6, _)]) ⟨rfl, rfl, rfl, trivial⟩ (e_K (J10 (spanA isDg s (e + 1)) true w16 ⟨h31.symm, by rw [h31]; rfl, by rw [h31]; simp; exact hk1, hl1_, E⟩))
     ·have hl1_ := hle
      refine cK ?_
      refine WE.sub (l' := [(0, _), (5, _), (6, _)]) ⟨rfl, rfl, rfl, trivial⟩ (e_K (J10 e false w15 ⟨h31.symm, by rw [h31]; rfl, by rw [h31]; simp, hl1_, E⟩))
   ·refine tW 7 rfl (Ln (e_K (hK6 _ _ _ _ (c_false rfl ?_))))
    have hno : ¬ (e = a0 ∨ (a0 + 1 < e ∧ s[a0]? = some 48)) := by
     rintro (h | ⟨h, h'⟩)
     ·omega
     ·first | omega | (rw [hc] at h'; injection h' with h'; subst h'; exact h3 rfl)
    refine cK (e_K (hK5 _ _ _ _ (Cq fun K36 hK36 => Cr (Za rfl (Ln (e_K (hK36 _ _ _ _ (Cq fun K37 hK37 => ?_))))))))
    have J37 : ∀ (e1 : Nat) (m : Bool) (w1 : World), m = hasA s e [46] ∧ e1 = (if hasA s e [46] then spanA isDg s (e + 1) else e) ∧ ¬ (hasA s e [46] = true ∧ spanA isDg s (e + 1) = e + 1) ∧ e1 ≤ s.length ∧ Mod [] w w1 → ∀ a, Has 73 [] [(0, S s), (5, .int .i64 (e1 : Int)), (6, .bool m)] a → K37 a w1 := by
     intro e1 m w17 hI
     obtain ⟨rfl, he1, hno2, hl1, E⟩ := hI
     refine hK37 _ _ _ _ (Cq fun K38 hK38 => ?_)
     have J38 : ∀ (e3 : Nat) (m3 : Bool) (w1 : World), wholeA s = (decide (e3 = s.length), m3) ∧ Mod [] w w1 → ∀ a, Has 73 [] [(0, S s), (5, .int .i64 (e3 : Int)), (6, .bool m3)] a → K38 a w1 := by
      intro e3 m3 w18 hI
      obtain ⟨hW, E⟩ := hI
      exact hK38 _ _ _ _ (Cq fun K39 hK39 => Cr (tW 2 rfl (Sv (o_slen Tryz.underlying9 rfl) (tW 4 rfl (Ln (e_K (hK39 _ _ _ _ (cR (ret2 rfl rfl rfl ⟨by rw [hW]; congr 2; simp; omega, E⟩)))))))))
     refine Cq fun K40 hK40 => Cr (tW 2 rfl (sc (oC ent101 rfl) (c_hasR _ s [101] e1 hl1 hs) rfl fun v_ w19 h_ => ?_))
     obtain ⟨rfl, E_⟩ := h_
     replace E := E.then E_
     refine bC (fun hx1 : (hasA s e1 [101]) = true => ?_) (fun hx1 => ?_)
     ·refine tW 5 rfl (Ln (e_K (hK40 _ _ _ _ (c_true rfl ?_))))
      have hE : (hasA s e1 [101] || hasA s e1 [69]) = true := by first | (simp only [hx1, Bool.true_or]; done) | (simp only [hx1, Bool.false_or]; first | exact hx2 | exact h48)
      have he1l : e1 + 1 ≤ s.length := by rcases Bool.or_eq_true_iff.1 hE with h | h <;> exact hasA_len h (by simp)
      refine Cq fun K41 hK41 => Cr (Za rfl (Ln (e_K (hK41 _ _ _ _ (Cq fun K42 hK42 => Cr (Zm rfl (Sv (o_addE (r := ((e1 + 1 : Nat) : Int)) rfl rfl (by rw [wrap64_in _ (by omega)]; omega)) (Za rfl (Ln (e_K (hK42 _ _ _ _ (Cq fun K43 hK43 => ?_))))))))))))
      have J43 : ∀ (e2 : Nat) (w1 : World), e2 = (if hasA s (e1 + 1) [43] || hasA s (e1 + 1) [45] then e1 + 2 else e1 + 1) ∧ e2 ≤ s.length ∧ Mod [] w w1 → ∀ a, Has 73 [] [(0, S s), (5, .int .i64 (e2 : Int)), (6, .bool true)] a → K43 a w1 := by
       intro e2 w20 hI
       obtain ⟨he2, hl2, E⟩ := hI
       refine hK43 _ _ _ _ (Cq fun K44 hK44 => Cr (tW 2 rfl (sc (oC ent184 rfl) (c_digR _ s e2 hl2 hs) rfl fun v_ w21 h_ => ?_)))
       obtain ⟨rfl, E_⟩ := h_
       replace E := E.then E_
       refine Za rfl (Ln (e_K (hK44 _ _ _ _ (Cq fun K45 hK45 => Cq fun K46 hK46 => Cr (tW 3 rfl (Ln (e_K (hK46 _ _ _ _ ?_))))))))
       refine c_if rfl (fun h66 => ?_) (fun h66 => ?_)
       ·have hR := wh_bad3 ha he hno hno2 he1 hE he2 (by omega)
        exact Cq fun K47 hK47 => Cr (tW 2 rfl (Ln (e_K (hK47 _ _ _ _ (cR (eT (by simp) (eT (by simp) (ret2 rfl rfl rfl ⟨by rw [hR], E⟩))))))))
       ·have hW_ := wh_exp ha he hno hno2 he1 hE he2 (by omega)
        refine cK (e_K (hK45 _ _ _ _ (Cr (tW 2 rfl (Ln ?_)))))
        refine WE.sub (l' := [(0, _), (5, _), (6, _)]) ⟨rfl, rfl, rfl, trivial⟩ (e_K (J38 (spanA isDg s e2) true w21 ⟨hW_, E⟩))
      refine Cq fun K48 hK48 => Cr (tW 2 rfl (sc (oC ent101 rfl) (c_hasR _ s [43] (e1 + 1) he1l hs) rfl fun v_ w22 h_ => ?_))
      obtain ⟨rfl, E_⟩ := h_
      replace E := E.then E_
      refine bC (fun hy1 : (hasA s (e1 + 1) [43]) = true => ?_) (fun hy1 => ?_)
      ·refine tW 5 rfl (Ln (e_K (hK48 _ _ _ _ (c_true rfl ?_))))
       have hS : (hasA s (e1 + 1) [43] || hasA s (e1 + 1) [45]) = true := by first | (simp only [hy1, Bool.true_or]; done) | (simp only [hy1, Bool.false_or]; first | exact hy2 | exact h58)
       have he2_ : e1 + 2 = (if hasA s (e1 + 1) [43] || hasA s (e1 + 1) [45] then e1 + 2 else e1 + 1) := by rw [if_pos hS]
       have hl2_ : e1 + 1 + 1 ≤ s.length := by rcases Bool.or_eq_true_iff.1 hS with h | h <;> exact hasA_len h (by simp)
       refine Cr (Zm rfl (Sv (o_addE (r := (((e1 + 1) + 1 : Nat) : Int)) rfl rfl (by rw [wrap64_in _ (by omega)]; omega)) (Za rfl (Ln ?_))))
       refine WE.sub (l' := [(0, _), (5, _), (6, _)]) ⟨rfl, rfl, rfl, trivial⟩ (e_K (J43 (e1 + 2) w22 ⟨he2_, by omega, E⟩))
      ·refine tW 3 rfl (sgc rfl rfl (oC ent101 rfl) (c_hasR _ s [45] (e1 + 1) he1l hs) rfl fun v_ w23 h_ => ?_)
       obtain ⟨rfl, E_⟩ := h_
       replace E := E.then E_
       refine bC (fun hy2 : (hasA s (e1 + 1) [45]) = true => ?_) (fun hy2 => ?_)
       ·refine Sv (oF rfl rfl rfl) (Ln (e_K (hK48 _ _ _ _ (c_true rfl ?_))))
        have h58 := hy2
        have hS : (hasA s (e1 + 1) [43] || hasA s (e1 + 1) [45]) = true := by first | (simp only [hy1, Bool.true_or]; done) | (simp only [hy1, Bool.false_or]; first | exact hy2 | exact h58)
        have he2_ : e1 + 2 = (if hasA s (e1 + 1) [43] || hasA s (e1 + 1) [45] then e1 + 2 else e1 + 1) := by rw [if_pos hS]
        have hl2_ : e1 + 1 + 1 ≤ s.length := by rcases Bool.or_eq_true_iff.1 hS with h | h <;> exact hasA_len h (by simp)
        refine Cr (Zm rfl (Sv (o_addE (r := (((e1 + 1) + 1 : Nat) : Int)) rfl rfl (by rw [wrap64_in _ (by omega)]; omega)) (Za rfl (Ln ?_))))
        refine WE.sub (l' := [(0, _), (5, _), (6, _)]) ⟨rfl, rfl, rfl, trivial⟩ (e_K (J43 (e1 + 2) w23 ⟨he2_, by omega, E⟩))
       ·refine Sv (oF rfl rfl rfl) (Ln (e_K (hK48 _ _ _ _ (c_false rfl ?_))))
        have h58 := hy2
        have hS : (hasA s (e1 + 1) [43] || hasA s (e1 + 1) [45]) = false := by simp only [hy1, Bool.false_or]; first | exact hy2 | exact h58
        have he2_ : e1 + 1 = (if hasA s (e1 + 1) [43] || hasA s (e1 + 1) [45] then e1 + 2 else e1 + 1) := by rw [hS]; rfl
        refine cK ?_
        refine WE.sub (l' := [(0, _), (5, _), (6, _)]) ⟨rfl, rfl, rfl, trivial⟩ (e_K (J43 (e1 + 1) w23 ⟨he2_, by omega, E⟩))
     ·refine tW 3 rfl (sgc rfl rfl (oC ent101 rfl) (c_hasR _ s [69] e1 hl1 hs) rfl fun v_ w24 h_ => ?_)
      obtain ⟨rfl, E_⟩ := h_
      replace E := E.then E_
      refine bC (fun hx2 : (hasA s e1 [69]) = true => ?_) (fun hx2 => ?_)
      ·refine Sv (oF rfl rfl rfl) (Ln (e_K (hK40 _ _ _ _ (c_true rfl ?_))))
       have h48 := hx2
       have hE : (hasA s e1 [101] || hasA s e1 [69]) = true := by first | (simp only [hx1, Bool.true_or]; done) | (simp only [hx1, Bool.false_or]; first | exact hx2 | exact h48)
       have he1l : e1 + 1 ≤ s.length := by rcases Bool.or_eq_true_iff.1 hE with h | h <;> exact hasA_len h (by simp)
       refine Cq fun K49 hK49 => Cr (Za rfl (Ln (e_K (hK49 _ _ _ _ (Cq fun K50 hK50 => Cr (Zm rfl (Sv (o_addE (r := ((e1 + 1 : Nat) : Int)) rfl rfl (by rw [wrap64_in _ (by omega)]; omega)) (Za rfl (Ln (e_K (hK50 _ _ _ _ (Cq fun K51 hK51 => ?_))))))))))))
       have J51 : ∀ (e2 : Nat) (w1 : World), e2 = (if hasA s (e1 + 1) [43] || hasA s (e1 + 1) [45] then e1 + 2 else e1 + 1) ∧ e2 ≤ s.length ∧ Mod [] w w1 → ∀ a, Has 73 [] [(0, S s), (5, .int .i64 (e2 : Int)), (6, .bool true)] a → K51 a w1 := by
        intro e2 w25 hI
        obtain ⟨he2, hl2, E⟩ := hI
        refine hK51 _ _ _ _ (Cq fun K52 hK52 => Cr (tW 2 rfl (sc (oC ent184 rfl) (c_digR _ s e2 hl2 hs) rfl fun v_ w26 h_ => ?_)))
        obtain ⟨rfl, E_⟩ := h_
        replace E := E.then E_
        refine Za rfl (Ln (e_K (hK52 _ _ _ _ (Cq fun K53 hK53 => Cq fun K54 hK54 => Cr (tW 3 rfl (Ln (e_K (hK54 _ _ _ _ ?_))))))))
        refine c_if rfl (fun h66 => ?_) (fun h66 => ?_)
        ·have hR := wh_bad3 ha he hno hno2 he1 hE he2 (by omega)
         exact Cq fun K55 hK55 => Cr (tW 2 rfl (Ln (e_K (hK55 _ _ _ _ (cR (eT (by simp) (eT (by simp) (ret2 rfl rfl rfl ⟨by rw [hR], E⟩))))))))
        ·have hW_ := wh_exp ha he hno hno2 he1 hE he2 (by omega)
         refine cK (e_K (hK53 _ _ _ _ (Cr (tW 2 rfl (Ln ?_)))))
         refine WE.sub (l' := [(0, _), (5, _), (6, _)]) ⟨rfl, rfl, rfl, trivial⟩ (e_K (J38 (spanA isDg s e2) true w26 ⟨hW_, E⟩))
       refine Cq fun K56 hK56 => Cr (tW 2 rfl (sc (oC ent101 rfl) (c_hasR _ s [43] (e1 + 1) he1l hs) rfl fun v_ w27 h_ => ?_))
       obtain ⟨rfl, E_⟩ := h_
       replace E := E.then E_
       refine bC (fun hy1 : (hasA s (e1 + 1) [43]) = true => ?_) (fun hy1 => ?_)
       ·refine tW 5 rfl (Ln (e_K (hK56 _ _ _ _ (c_true rfl ?_))))
        have hS : (hasA s (e1 + 1) [43] || hasA s (e1 + 1) [45]) = true := by first | (simp only [hy1, Bool.true_or]; done) | (simp only [hy1, Bool.false_or]; first | exact hy2 | exact h58)
        have he2_ : e1 + 2 = (if hasA s (e1 + 1) [43] || hasA s (e1 + 1) [45] then e1 + 2 else e1 + 1) := by rw [if_pos hS]
        have hl2_ : e1 + 1 + 1 ≤ s.length := by rcases Bool.or_eq_true_iff.1 hS with h | h <;> exact hasA_len h (by simp)
        refine Cr (Zm rfl (Sv (o_addE (r := (((e1 + 1) + 1 : Nat) : Int)) rfl rfl (by rw [wrap64_in _ (by omega)]; omega)) (Za rfl (Ln ?_))))
        refine WE.sub (l' := [(0, _), (5, _), (6, _)]) ⟨rfl, rfl, rfl, trivial⟩ (e_K (J51 (e1 + 2) w27 ⟨he2_, by omega, E⟩))
       ·refine tW 3 rfl (sgc rfl rfl (oC ent101 rfl) (c_hasR _ s [45] (e1 + 1) he1l hs) rfl fun v_ w28 h_ => ?_)
        obtain ⟨rfl, E_⟩ := h_
        replace E := E.then E_
        refine bC (fun hy2 : (hasA s (e1 + 1) [45]) = true => ?_) (fun hy2 => ?_)
        ·refine Sv (oF rfl rfl rfl) (Ln (e_K (hK56 _ _ _ _ (c_true rfl ?_))))
         have h58 := hy2
         have hS : (hasA s (e1 + 1) [43] || hasA s (e1 + 1) [45]) = true := by first | (simp only [hy1, Bool.true_or]; done) | (simp only [hy1, Bool.false_or]; first | exact hy2 | exact h58)
         have he2_ : e1 + 2 = (if hasA s (e1 + 1) [43] || hasA s (e1 + 1) [45] then e1 + 2 else e1 + 1) := by rw [if_pos hS]
         have hl2_ : e1 + 1 + 1 ≤ s.length := by rcases Bool.or_eq_true_iff.1 hS with h | h <;> exact hasA_len h (by simp)
         refine Cr (Zm rfl (Sv (o_addE (r := (((e1 + 1) + 1 : Nat) : Int)) rfl rfl (by rw [wrap64_in _ (by omega)]; omega)) (Za rfl (Ln ?_))))
         refine WE.sub (l' := [(0, _), (5, _), (6, _)]) ⟨rfl, rfl, rfl, trivial⟩ (e_K (J51 (e1 + 2) w28 ⟨he2_, by omega, E⟩))
        ·refine Sv (oF rfl rfl rfl) (Ln (e_K (hK56 _ _ _ _ (c_false rfl ?_))))
         have h58 := hy2
         have hS : (hasA s (e1 + 1) [43] || hasA s (e1 + 1) [45]) = false := by simp only [hy1, Bool.false_or]; first | exact hy2 | exact h58
         have he2_ : e1 + 1 = (if hasA s (e1 + 1) [43] || hasA s (e1 + 1) [45] then e1 + 2 else e1 + 1) := by rw [hS]; rfl
         refine cK ?_
         refine WE.sub (l' := [(0, _), (5, _), (6, _)]) ⟨rfl, rfl, rfl, trivial⟩ (e_K (J51 (e1 + 1) w28 ⟨he2_, by omega, E⟩))
      ·refine Sv (oF rfl rfl rfl) (Ln (e_K (hK40 _ _ _ _ (c_false rfl ?_))))
       have h48 := hx2
       have hE : (hasA s e1 [101] || hasA s e1 [69]) = false := by simp only [hx1, Bool.false_or]; first | exact hx2 | exact h48
       have hW_ := wh_int ha he hno hno2 he1 hE
       refine cK ?_
       refine WE.sub (l' := [(0, _), (5, _), (6, _)]) ⟨rfl, rfl, rfl, trivial⟩ (e_K (J38 e1 (hasA s e [46]) w24 ⟨hW_, E⟩))
    refine Cq fun K57 hK57 => Cr (tW 2 rfl (sc (oC ent101 rfl) (c_hasR _ s [46] e hle hs) rfl fun v_ w29 h_ => ?_))
    obtain ⟨rfl, E_⟩ := h_
    replace E := E.then E_
    refine Ln (e_K (hK57 _ _ _ _ ?_))
    refine c_cond rfl (fun h31 => ?_) (fun h31 => ?_)
    ·have hel : e + 1 ≤ s.length := hasA_len (t := [46]) h31 (by simp)
     refine Cq fun K58 hK58 => Cr (Za rfl (Ln (e_K (hK58 _ _ _ _ (Cq fun K59 hK59 => Cr (tW 2 rfl (Sv (o_addE (r := ((e + 1 : Nat) : Int)) rfl rfl (by rw [wrap64_in _ (by omega)]; omega)) (sc (oC ent184 rfl) (c_digR _ s (e + 1) hel hs) rfl fun v_ w30 h_ => ?_))))))))
     obtain ⟨rfl, E_⟩ := h_
     replace E := E.then E_
     have hl1_ : spanA isDg s (e + 1) ≤ s.length := spanA_le hel
     refine Za rfl (Ln (e_K (hK59 _ _ _ _ (Cq fun K60 hK60 => Cq fun K61 hK61 => Cr (tW 2 rfl (Sv (o_addE (r := ((e + 1 : Nat) : Int)) rfl rfl (by rw [wrap64_in _ (by omega)]; omega)) (Sv (oE rfl rfl) (Ln (e_K (hK61 _ _ _ _ ?_))))))))))
     refine c_if rfl (fun h39 => ?_) (fun h39 => ?_)
     ·have hR := wh_bad2 ha he hno h31 (by omega)
      exact Cq fun K62 hK62 => Cr (tW 2 rfl (Ln (e_K (hK62 _ _ _ _ (cR (eT (by simp) (eT (by simp) (ret2 rfl rfl rfl ⟨by rw [hR], E⟩))))))))
     ·have hk1 : ¬ spanA isDg s (e + 1) = e + 1 := by omega
      refine cK (e_K (hK60 _ _ _ _ (Cr (tW 2 rfl (Ln ?_)))))
      refine WE.sub (l' := [(0, _), (5, _), (6, _)]) ⟨rfl, rfl, rfl, trivial⟩ (e_K (J37 (spanA isDg s (e + 1)) true w30 ⟨h31.symm, by rw [h31]; rfl, by rw [h31]; simp; exact hk1, hl1_, E⟩))
    ·have hl1_ := hle
     refine cK ?_
     refine WE.sub (l' := [(0, _), (5, _), (6, _)]) ⟨rfl, rfl, rfl, trivial⟩ (e_K (J37 e false w29 ⟨h31.symm, by rw [h31]; rfl, by rw [h31]; simp, hl1_, E⟩))
 refine Cq fun K63 hK63 => Cr (Zm rfl (sc (oC ent101 rfl) (c_hasR _ s [45] 0 (by omega) hs) rfl fun v_ w31 h_ => ?_))
 obtain ⟨rfl, E_⟩ := h_
 replace E := E.then E_
 refine Ln (e_K (hK63 _ _ _ _ ?_))
 refine c_cond rfl (fun h10 => ?_) (fun h10 => ?_)
 ·skip
  refine Cr (Za rfl (Ln ?_))
  refine WE.sub (l' := [(0, _), (4, _)]) ⟨rfl, rfl, trivial⟩ (e_K (J3 1 w31 ⟨by rw [h10]; rfl, E⟩))
 ·skip
  refine cK ?_
  refine WE.sub (l' := [(0, _), (4, _)]) ⟨rfl, rfl, trivial⟩ (e_K (J3 0 w31 ⟨by rw [h10]; rfl, E⟩))
end Go.Proofs.YtknndpjacklkeaaGreatDoor.V
