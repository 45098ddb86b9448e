/-
  A part of the proof: no writing fails with the number 0; what is read has a canonical text, unless it is too long. No condition of its own.
-/
import Derived.Test.YtknndpjacklkeaaGreatDoorM18
import Derived.Test.YtknndpjacklkeaaGreatDoorM12
import Derived.Test.YtknndpjacklkeaaGreatDoorM5
import Derived.Test.YtknndpjacklkeaaGreatDoorM7
import Derived.Test.YtknndpjacklkeaaGreatDoorM4
import Derived.Test.YtknndpjacklkeaaGreatDoorM16
import Derived.Test.YtknndpjacklkeaaGreatDoorM9
import Derived.Test.YtknndpjacklkeaaGreatDoorM6
set_option linter.unusedVariables false
set_option linter.unusedSimpArgs false
set_option maxRecDepth 10000
namespace Go.Proofs.YtknndpjacklkeaaGreatDoor.V
open Go Go.Proofs
theorem ent150 : Ent Tryz.prog 150 := Ent.of Tryz.func150 (by kernel_rfl) (by kernel_rfl)
/-- what a reading hands back, in memory -/
def RRes (A : List Nat) (w w' : World) (r : PR) (u : Value) : Prop := ∃ us, u = .tuple #[.agg us.toArray, .int .i64 ((rP r : Nat) : Int), .int .i64 (rE r)] ∧ Reps A w' (rV r).D us ∧ Mod [] w w'
theorem RRes.no {A : List Nat} {w w' : World} {r : PR} {e : Int} {us : List Value} (h : r = .error e) (R : Reps A w' JV.nul.D us) (E : Mod [] w w') : RRes A w w' r (.tuple #[.agg us.toArray, .int .i64 0, .int .i64 e]) := by
 subst h
 exact ⟨us, rfl, R, E⟩
theorem RRes.yes {A : List Nat} {w w' : World} {r : PR} {v : JV} {k : Nat} {us : List Value} (h : r = .ok (v, k)) (R : Reps A w' v.D us) (E : Mod [] w w') : RRes A w w' r (.tuple #[.agg us.toArray, .int .i64 (k : Int), .int .i64 0]) := by
 subst h
 exact ⟨us, rfl, R, E⟩
theorem atoi_b {s : Str} {n : Int} {er : Value} (h : AtoiS s n er) : -9223372036854775808 ≤ n ∧ n ≤ 9223372036854775807 := by
 rcases h with ⟨h, _⟩ | ⟨_, _, h, _⟩
 ·exact atoi_bound h
 ·omega
theorem numW_bad {w : Str} {n : Int} {er : Value} (hat : AtoiS w n er) (h1 : ¬ (wholeA w).1 = false) (h : ¬ (Lib.itoa n = w ∧ -9007199254740991 ≤ n ∧ n ≤ 9007199254740991)) : numW w = .error 7 := by
 unfold numW
 rw [if_neg h1]
 rcases hat with ⟨hok, _⟩ | ⟨hno, _⟩
 ·rw [numZ_ok hok, if_neg h]
 ·rw [numZ_no hno]
theorem numA_no {s : Str} {k : Nat} {e : Int} (h : numW ((s.drop k).take (spanA isNm s k - k)) = .error e) : numA s k = .error e := by
 unfold numA
 rw [h]
 rfl
theorem numA_yes {s : Str} {k : Nat} {n : Int} (h : numW ((s.drop k).take (spanA isNm s k - k)) = .ok n) : numA s k = .ok (JV.numV n, spanA isNm s k) := by
 unfold numA
 rw [h]
 rfl

theorem c_numR (A : List Nat) (w : World) (s : Str) (k : Nat) (hk : k ≤ s.length) (hs : s.length ≤ 1000000) (hE : Env w) : Calls Tryz.prog 105 [S s, .int .i64 (k : Int)].toArray w (Ret fun u w' => RRes A w w' (numA s k) u) := by
 refine enter Tryz.func105 rfl rfl rfl (l := [(0, _), (1, _)]) ⟨rfl, rfl, trivial⟩ ?_
 have E := Mod.refl [] w
 refine Cq fun K1 hK1 => Cr (s_alloc zv25 rfl fun g1 w1 N1 => ?_)
 have Lg1_E := N1.le E
 replace E := E.then N1.mod
 have Bg1 := N1.blk
 refine tW 2 rfl (Ln (e_K (hK1 _ _ _ _ (Cq fun K2 hK2 => Cr (tW 2 rfl (Ln (e_K (hK2 _ _ _ _ (Cq fun K3 hK3 => cB (c_loop (σ := Nat) (fun p => [(0, S s), (1, .int .i64 (k : Int)), (4, .pointer (some ⟨g1, 0, none⟩)), (7, .int .i64 (p : Int))]) (fun p w1 => (k ≤ p ∧ p ≤ s.length ∧ spanA isNm s p = spanA isNm s k) ∧ Blk w1 g1 25 [.int .i64 0, .bool false, .int .i64 0, S [], .slice none 0 0, .slice none 0 0] ∧ Mod [] w w1) (fun p => s.length - p) (k) ⟨rfl, rfl, rfl, rfl, trivial⟩ (⟨⟨Nat.le_refl _, hk, rfl⟩, Bg1, E⟩) ?_))))))))))
 rintro p w2 ⟨⟨hkp, hp, hsp⟩, Bg1, E⟩
 refine Cq fun K4 hK4 => Cq fun K5 hK5 => Cr (tW 2 rfl (Sv (o_slen Tryz.underlying9 rfl) (Sv (o_lss rfl rfl) ?_)))
 refine bD (fun hlt : (p : Int) < (s.length : Int) => ?_) (fun hlt => ?_)
 ·obtain ⟨c, hc⟩ : ∃ c, s[p]? = some c := ⟨_, List.getElem?_eq_getElem (by omega)⟩
  have hcl := c.toNat_lt
  refine tW 3 rfl (Sg rfl rfl (o_sidx Tryz.underlying9 rfl rfl (by omega) (by rw [Int.toNat_natCast]; exact hc)) (Sg rfl rfl (o_geq rfl rfl) ?_))
  refine bD (fun d1 : (c.toNat : Int) ≥ 48 => ?_) (fun d1 => ?_)
  ·refine tW 3 rfl (Sg rfl rfl (o_sidx Tryz.underlying9 rfl rfl (by omega) (by rw [Int.toNat_natCast]; exact hc)) (Sg rfl rfl (o_leq rfl rfl) ?_))
   refine bD (fun d2 : (c.toNat : Int) ≤ 57 => ?_) (fun d2 => ?_)
   ·refine tW 32 rfl (Ln (e_K (hK5 _ _ _ _ (c_true rfl ?_))))
    have hws : isNm c = true := nm_yes (by omega)
    exact cK (e_K (hK4 _ _ _ _ (cB (Cr (Zm rfl (Sv (o_addE (r := ((p + 1 : Nat) : Int)) rfl rfl (by rw [wrap64_in _ (by omega)]; omega)) (Za rfl (Ln (eI (by simp) (eR (σ := Nat) (s := p) (p + 1) ⟨rfl, rfl, rfl, rfl, trivial⟩ ⟨⟨by omega, by omega, by rw [spanA_go hc hws]; exact hsp⟩, Bg1, E⟩ (by omega)))))))))))
   ·refine tW 4 rfl (Sg rfl rfl (o_sidx Tryz.underlying9 rfl rfl (by omega) (by rw [Int.toNat_natCast]; exact hc)) (Sg rfl rfl (oE rfl rfl) ?_))
    refine bD (fun e1 : (c.toNat : Int) = 43 => ?_) (fun e1 => ?_)
    ·refine tW 26 rfl (Ln (e_K (hK5 _ _ _ _ (c_true rfl ?_))))
     have hws : isNm c = true := nm_yes (by omega)
     exact cK (e_K (hK4 _ _ _ _ (cB (Cr (Zm rfl (Sv (o_addE (r := ((p + 1 : Nat) : Int)) rfl rfl (by rw [wrap64_in _ (by omega)]; omega)) (Za rfl (Ln (eI (by simp) (eR (σ := Nat) (s := p) (p + 1) ⟨rfl, rfl, rfl, rfl, trivial⟩ ⟨⟨by omega, by omega, by rw [spanA_go hc hws]; exact hsp⟩, Bg1, E⟩ (by omega)))))))))))
    ·refine tW 4 rfl (Sg rfl rfl (o_sidx Tryz.underlying9 rfl rfl (by omega) (by rw [Int.toNat_natCast]; exact hc)) (Sg rfl rfl (oE rfl rfl) ?_))
     refine bD (fun e2 : (c.toNat : Int) = 45 => ?_) (fun e2 => ?_)
     ·refine tW 20 rfl (Ln (e_K (hK5 _ _ _ _ (c_true rfl ?_))))
      have hws : isNm c = true := nm_yes (by omega)
      exact cK (e_K (hK4 _ _ _ _ (cB (Cr (Zm rfl (Sv (o_addE (r := ((p + 1 : Nat) : Int)) rfl rfl (by rw [wrap64_in _ (by omega)]; omega)) (Za rfl (Ln (eI (by simp) (eR (σ := Nat) (s := p) (p + 1) ⟨rfl, rfl, rfl, rfl, trivial⟩ ⟨⟨by omega, by omega, by rw [spanA_go hc hws]; exact hsp⟩, Bg1, E⟩ (by omega)))))))))))
     ·refine tW 4 rfl (Sg rfl rfl (o_sidx Tryz.underlying9 rfl rfl (by omega) (by rw [Int.toNat_natCast]; exact hc)) (Sg rfl rfl (oE rfl rfl) ?_))
      refine bD (fun e3 : (c.toNat : Int) = 46 => ?_) (fun e3 => ?_)
      ·refine tW 14 rfl (Ln (e_K (hK5 _ _ _ _ (c_true rfl ?_))))
       have hws : isNm c = true := nm_yes (by omega)
       exact cK (e_K (hK4 _ _ _ _ (cB (Cr (Zm rfl (Sv (o_addE (r := ((p + 1 : Nat) : Int)) rfl rfl (by rw [wrap64_in _ (by omega)]; omega)) (Za rfl (Ln (eI (by simp) (eR (σ := Nat) (s := p) (p + 1) ⟨rfl, rfl, rfl, rfl, trivial⟩ ⟨⟨by omega, by omega, by rw [spanA_go hc hws]; exact hsp⟩, Bg1, E⟩ (by omega)))))))))))
      ·refine tW 4 rfl (Sg rfl rfl (o_sidx Tryz.underlying9 rfl rfl (by omega) (by rw [Int.toNat_natCast]; exact hc)) (Sg rfl rfl (oE rfl rfl) ?_))
       refine bD (fun e4 : (c.toNat : Int) = 101 => ?_) (fun e4 => ?_)
       ·refine tW 8 rfl (Ln (e_K (hK5 _ _ _ _ (c_true rfl ?_))))
        have hws : isNm c = true := nm_yes (by omega)
        exact cK (e_K (hK4 _ _ _ _ (cB (Cr (Zm rfl (Sv (o_addE (r := ((p + 1 : Nat) : Int)) rfl rfl (by rw [wrap64_in _ (by omega)]; omega)) (Za rfl (Ln (eI (by simp) (eR (σ := Nat) (s := p) (p + 1) ⟨rfl, rfl, rfl, rfl, trivial⟩ ⟨⟨by omega, by omega, by rw [spanA_go hc hws]; exact hsp⟩, Bg1, E⟩ (by omega)))))))))))
       ·refine tW 4 rfl (Sg rfl rfl (o_sidx Tryz.underlying9 rfl rfl (by omega) (by rw [Int.toNat_natCast]; exact hc)) (Sg rfl rfl (oE rfl rfl) ?_))
        refine bD (fun e5 : (c.toNat : Int) = 69 => ?_) (fun e5 => ?_)
        ·refine tW 2 rfl (Ln (e_K (hK5 _ _ _ _ (c_true rfl ?_))))
         have hws : isNm c = true := nm_yes (by omega)
         exact cK (e_K (hK4 _ _ _ _ (cB (Cr (Zm rfl (Sv (o_addE (r := ((p + 1 : Nat) : Int)) rfl rfl (by rw [wrap64_in _ (by omega)]; omega)) (Za rfl (Ln (eI (by simp) (eR (σ := Nat) (s := p) (p + 1) ⟨rfl, rfl, rfl, rfl, trivial⟩ ⟨⟨by omega, by omega, by rw [spanA_go hc hws]; exact hsp⟩, Bg1, E⟩ (by omega)))))))))))
        ·refine tW 2 rfl (Ln (e_K (hK5 _ _ _ _ (c_false rfl ?_))))
         have hpe : p = spanA isNm s k := by
          rw [← hsp]
          first | exact (spanA_end (by omega)).symm | exact (spanA_stop hc (nm_not (by omega))).symm
         refine c_exit (eT (by simp) (eT (by simp) (e_hit (e_K (hK3 _ _ _ _ (Cq fun K6 hK6 => ?_))))))
         have hwl : ((s.drop k).take (spanA isNm s k - k)).length ≤ 1000000 := by rw [List.length_take, List.length_drop]; omega
         refine Cr (tW 3 rfl (Sv ((o_ssl Tryz.underlying9 rfl rfl rfl (by simp only [loV, hiV]; omega)).to (v' := S ((s.drop k).take (spanA isNm s k - k))) (by simp only [loV, hiV, Int.toNat_natCast]; rw [hpe])) (Za rfl (Ln (e_K (hK6 _ _ _ _ (Cq fun K7 hK7 => Cr (Zm rfl (sc (oC ent150 rfl) (c_wholeR _ ((s.drop k).take (spanA isNm s k - k)) hwl) rfl fun v_ w3 h_ => ?_)))))))))
         obtain ⟨rfl, E_⟩ := h_
         replace Bg1 := Bg1.mod0 E_
         replace E := E.then E_
         refine tW 5 rfl (Ln (e_K (hK7 _ _ _ _ (Cq fun K8 hK8 => Cq fun K9 hK9 => Cr (tW 2 rfl (Ln (e_K (hK9 _ _ _ _ ?_))))))))
         refine c_cond rfl (fun h72 => ?_) (fun h72 => ?_)
         ·have hR := numA_no (s := s) (k := k) (e := 4) (by unfold numW; rw [if_pos (by simpa using h72)])
          refine Cq fun K10 hK10 => Cr (Sv (o_build (cs := [_, _, _, _, _, _]) pl25 zv25 rfl rfl) (s_sta (vs := [_, _, _, _, _, _]) ag25 Bg1 rfl rfl rfl (by simp [Value.oneCell']) (by simp) fun w4 P4 => ?_))
          replace E := E.own P4.mod Lg1_E
          replace Bg1 : Blk w4 g1 _ [_, _, _, _, _, _] := P4.blk
          exact tW 2 rfl (Ln (e_K (hK10 _ _ _ _ (cR (eT (by simp) (retctt (vs := [_, _, _, _, _, _]) rfl ag25 rfl rfl (Bg1.cs rfl) rfl rfl (RRes.no hR JV.nul_reps E)))))))
         ·have hrt : ¬ (wholeA ((s.drop k).take (spanA isNm s k - k))).1 = false := by simpa using h72
          refine cK (e_K (hK8 _ _ _ _ (Cq fun K11 hK11 => Cr (Zm rfl (sc (oC ent151 rfl) (c_atoi _ ((s.drop k).take (spanA isNm s k - k)) hwl (hE.mod0 E).err) rfl fun v_ w5 h_ => ?_)))))
          obtain ⟨n, er, rfl, hat, E_⟩ := h_
          replace Bg1 := Bg1.mod0 E_
          replace E := E.then E_
          obtain ⟨hb1, hb2⟩ := atoi_b hat
          refine tW 5 rfl (Ln (e_K (hK11 _ _ _ _ (Cq fun K12 hK12 => Cq fun K13 hK13 => Cr (Zm rfl ?_)))))
          refine bC (fun hm : ((wholeA ((s.drop k).take (spanA isNm s k - k))).2) = true => ?_) (fun hm => ?_)
          ·refine tW 14 rfl (Ln (e_K (hK13 _ _ _ _ (c_true rfl ?_))))
           have hR := numA_no (s := s) (k := k) (e := 7) (by first | exact numW_more hrt hm | exact numW_bad hat hrt (by rintro ⟨q1, q2, q3⟩; first | exact hi0 q1 | omega))
           refine Cq fun K14 hK14 => Cr (Sv (o_build (cs := [_, _, _, _, _, _]) pl25 zv25 rfl rfl) (s_sta (vs := [_, _, _, _, _, _]) ag25 Bg1 rfl rfl rfl (by simp [Value.oneCell']) (by simp) fun w6 P6 => ?_))
           replace E := E.own P6.mod Lg1_E
           replace Bg1 : Blk w6 g1 _ [_, _, _, _, _, _] := P6.blk
           exact tW 2 rfl (Ln (e_K (hK14 _ _ _ _ (cR (eT (by simp) (retctt (vs := [_, _, _, _, _, _]) rfl ag25 rfl rfl (Bg1.cs rfl) rfl rfl (RRes.no hR JV.nul_reps E)))))))
          ·refine tW 2 rfl (sgc rfl rfl (oC ent109 rfl) (c_itoa _ n hb1 hb2 (hE.mod0 E).tab) rfl fun v_ w7 h_ => ?_)
           obtain ⟨rfl, E_⟩ := h_
           replace Bg1 := Bg1.mod0 E_
           replace E := E.then E_
           refine Sg rfl rfl (oM rfl) (Sg rfl rfl (o_sne rfl rfl) ?_)
           refine bD (fun hi0 : Lib.itoa n ≠ ((s.drop k).take (spanA isNm s k - k)) => ?_) (fun hi0 => ?_)
           ·refine tW 9 rfl (Ln (e_K (hK13 _ _ _ _ (c_true rfl ?_))))
            have hR := numA_no (s := s) (k := k) (e := 7) (by first | exact numW_more hrt hm | exact numW_bad hat hrt (by rintro ⟨q1, q2, q3⟩; first | exact hi0 q1 | omega))
            refine Cq fun K15 hK15 => Cr (Sv (o_build (cs := [_, _, _, _, _, _]) pl25 zv25 rfl rfl) (s_sta (vs := [_, _, _, _, _, _]) ag25 Bg1 rfl rfl rfl (by simp [Value.oneCell']) (by simp) fun w8 P8 => ?_))
            replace E := E.own P8.mod Lg1_E
            replace Bg1 : Blk w8 g1 _ [_, _, _, _, _, _] := P8.blk
            exact tW 2 rfl (Ln (e_K (hK15 _ _ _ _ (cR (eT (by simp) (retctt (vs := [_, _, _, _, _, _]) rfl ag25 rfl rfl (Bg1.cs rfl) rfl rfl (RRes.no hR JV.nul_reps E)))))))
           ·refine tW 4 rfl ?_
            refine bD (fun hi1 : n > 9007199254740991 => ?_) (fun hi1 => ?_)
            ·refine tW 5 rfl (Ln (e_K (hK13 _ _ _ _ (c_true rfl ?_))))
             have hR := numA_no (s := s) (k := k) (e := 7) (by first | exact numW_more hrt hm | exact numW_bad hat hrt (by rintro ⟨q1, q2, q3⟩; first | exact hi0 q1 | omega))
             refine Cq fun K16 hK16 => Cr (Sv (o_build (cs := [_, _, _, _, _, _]) pl25 zv25 rfl rfl) (s_sta (vs := [_, _, _, _, _, _]) ag25 Bg1 rfl rfl rfl (by simp [Value.oneCell']) (by simp) fun w9 P9 => ?_))
             replace E := E.own P9.mod Lg1_E
             replace Bg1 : Blk w9 g1 _ [_, _, _, _, _, _] := P9.blk
             exact tW 2 rfl (Ln (e_K (hK16 _ _ _ _ (cR (eT (by simp) (retctt (vs := [_, _, _, _, _, _]) rfl ag25 rfl rfl (Bg1.cs rfl) rfl rfl (RRes.no hR JV.nul_reps E)))))))
            ·refine tW 4 rfl ?_
             refine bD (fun hi2 : n < -9007199254740991 => ?_) (fun hi2 => ?_)
             ·refine Sv (oF rfl rfl rfl) (Ln (e_K (hK13 _ _ _ _ (c_true rfl ?_))))
              have hR := numA_no (s := s) (k := k) (e := 7) (by first | exact numW_more hrt hm | exact numW_bad hat hrt (by rintro ⟨q1, q2, q3⟩; first | exact hi0 q1 | omega))
              refine Cq fun K17 hK17 => Cr (Sv (o_build (cs := [_, _, _, _, _, _]) pl25 zv25 rfl rfl) (s_sta (vs := [_, _, _, _, _, _]) ag25 Bg1 rfl rfl rfl (by simp [Value.oneCell']) (by simp) fun w10 P10 => ?_))
              replace E := E.own P10.mod Lg1_E
              replace Bg1 : Blk w10 g1 _ [_, _, _, _, _, _] := P10.blk
              exact tW 2 rfl (Ln (e_K (hK17 _ _ _ _ (cR (eT (by simp) (retctt (vs := [_, _, _, _, _, _]) rfl ag25 rfl rfl (Bg1.cs rfl) rfl rfl (RRes.no hR JV.nul_reps E)))))))
             ·refine Sv (oF rfl rfl rfl) (Ln (e_K (hK13 _ _ _ _ (c_false rfl ?_))))
              have hR := numA_yes (s := s) (k := k) (numW_okZ hrt (Classical.not_not.1 hi0) (by omega) (by omega))
              refine cK (e_K (hK12 _ _ _ _ (Cq fun K18 hK18 => Cr (Zm rfl (Sv (o_build (cs := [_, _, _, _, _, _]) pl25 zv25 rfl rfl) (Zm rfl (s_sta (vs := [_, _, _, _, _, _]) ag25 Bg1 rfl rfl rfl (by simp [Value.oneCell']) (by simp) fun w11 P11 => ?_)))))))
              replace E := E.own P11.mod Lg1_E
              replace Bg1 : Blk w11 g1 _ [_, _, _, _, _, _] := P11.blk
              exact tW 2 rfl (Ln (e_K (hK18 _ _ _ _ (cR (retctt (vs := [_, _, _, _, _, _]) rfl ag25 rfl rfl (Bg1.cs rfl) rfl rfl (RRes.yes (by rw [hR, hpe]) JV.num_reps E))))))
  ·refine tW 9 rfl (Sg rfl rfl (o_sidx Tryz.underlying9 rfl rfl (by omega) (by rw [Int.toNat_natCast]; exact hc)) (Sg rfl rfl (oE rfl rfl) ?_))
   refine bD (fun e1 : (c.toNat : Int) = 43 => ?_) (fun e1 => ?_)
   ·refine tW 26 rfl (Ln (e_K (hK5 _ _ _ _ (c_true rfl ?_))))
    have hws : isNm c = true := nm_yes (by omega)
    exact cK (e_K (hK4 _ _ _ _ (cB (Cr (Zm rfl (Sv (o_addE (r := ((p + 1 : Nat) : Int)) rfl rfl (by rw [wrap64_in _ (by omega)]; omega)) (Za rfl (Ln (eI (by simp) (eR (σ := Nat) (s := p) (p + 1) ⟨rfl, rfl, rfl, rfl, trivial⟩ ⟨⟨by omega, by omega, by rw [spanA_go hc hws]; exact hsp⟩, Bg1, E⟩ (by omega)))))))))))
   ·refine tW 4 rfl (Sg rfl rfl (o_sidx Tryz.underlying9 rfl rfl (by omega) (by rw [Int.toNat_natCast]; exact hc)) (Sg rfl rfl (oE rfl rfl) ?_))
    refine bD (fun e2 : (c.toNat : Int) = 45 => ?_) (fun e2 => ?_)
    ·refine tW 20 rfl (Ln (e_K (hK5 _ _ _ _ (c_true rfl ?_))))
     have hws : isNm c = true := nm_yes (by omega)
     exact cK (e_K (hK4 _ _ _ _ (cB (Cr (Zm rfl (Sv (o_addE (r := ((p + 1 : Nat) : Int)) rfl rfl (by rw [wrap64_in _ (by omega)]; omega)) (Za rfl (Ln (eI (by simp) (eR (σ := Nat) (s := p) (p + 1) ⟨rfl, rfl, rfl, rfl, trivial⟩ ⟨⟨by omega, by omega, by rw [spanA_go hc hws]; exact hsp⟩, Bg1, E⟩ (by omega)))))))))))
    ·refine tW 4 rfl (Sg rfl rfl (o_sidx Tryz.underlying9 rfl rfl (by omega) (by rw [Int.toNat_natCast]; exact hc)) (Sg rfl rfl (oE rfl rfl) ?_))
     refine bD (fun e3 : (c.toNat : Int) = 46 => ?_) (fun e3 => ?_)
     ·refine tW 14 rfl (Ln (e_K (hK5 _ _ _ _ (c_true rfl ?_))))
      have hws : isNm c = true := nm_yes (by omega)
      exact cK (e_K (hK4 _ _ _ _ (cB (Cr (Zm rfl (Sv (o_addE (r := ((p + 1 : Nat) : Int)) rfl rfl (by rw [wrap64_in _ (by omega)]; omega)) (Za rfl (Ln (eI (by simp) (eR (σ := Nat) (s := p) (p + 1) ⟨rfl, rfl, rfl, rfl, trivial⟩ ⟨⟨by omega, by omega, by rw [spanA_go hc hws]; exact hsp⟩, Bg1, E⟩ (by omega)))))))))))
     ·refine tW 4 rfl (Sg rfl rfl (o_sidx Tryz.underlying9 rfl rfl (by omega) (by rw [Int.toNat_natCast]; exact hc)) (Sg rfl rfl (oE rfl rfl) ?_))
      refine bD (fun e4 : (c.toNat : Int) = 101 => ?_) (fun e4 => ?_)
      ·refine tW 8 rfl (Ln (e_K (hK5 _ _ _ _ (c_true rfl ?_))))
       have hws : isNm c = true := nm_yes (by omega)
       exact cK (e_K (hK4 _ _ _ _ (cB (Cr (Zm rfl (Sv (o_addE (r := ((p + 1 : Nat) : Int)) rfl rfl (by rw [wrap64_in _ (by omega)]; omega)) (Za rfl (Ln (eI (by simp) (eR (σ := Nat) (s := p) (p + 1) ⟨rfl, rfl, rfl, rfl, trivial⟩ ⟨⟨by omega, by omega, by rw [spanA_go hc hws]; exact hsp⟩, Bg1, E⟩ (by omega)))))))))))
      ·refine tW 4 rfl (Sg rfl rfl (o_sidx Tryz.underlying9 rfl rfl (by omega) (by rw [Int.toNat_natCast]; exact hc)) (Sg rfl rfl (oE rfl rfl) ?_))
       refine bD (fun e5 : (c.toNat : Int) = 69 => ?_) (fun e5 => ?_)
       ·refine tW 2 rfl (Ln (e_K (hK5 _ _ _ _ (c_true rfl ?_))))
        have hws : isNm c = true := nm_yes (by omega)
        exact cK (e_K (hK4 _ _ _ _ (cB (Cr (Zm rfl (Sv (o_addE (r := ((p + 1 : Nat) : Int)) rfl rfl (by rw [wrap64_in _ (by omega)]; omega)) (Za rfl (Ln (eI (by simp) (eR (σ := Nat) (s := p) (p + 1) ⟨rfl, rfl, rfl, rfl, trivial⟩ ⟨⟨by omega, by omega, by rw [spanA_go hc hws]; exact hsp⟩, Bg1, E⟩ (by omega)))))))))))
       ·refine tW 2 rfl (Ln (e_K (hK5 _ _ _ _ (c_false rfl ?_))))
        have hpe : p = spanA isNm s k := by
         rw [← hsp]
         first | exact (spanA_end (by omega)).symm | exact (spanA_stop hc (nm_not (by omega))).symm
        refine c_exit (eT (by simp) (eT (by simp) (e_hit (e_K (hK3 _ _ _ _ (Cq fun K19 hK19 => ?_))))))
        have hwl : ((s.drop k).take (spanA isNm s k - k)).length ≤ 1000000 := by rw [List.length_take, List.length_drop]; omega
        refine Cr (tW 3 rfl (Sv ((o_ssl Tryz.underlying9 rfl rfl rfl (by simp only [loV, hiV]; omega)).to (v' := S ((s.drop k).take (spanA isNm s k - k))) (by simp only [loV, hiV, Int.toNat_natCast]; rw [hpe])) (Za rfl (Ln (e_K (hK19 _ _ _ _ (Cq fun K20 hK20 => Cr (Zm rfl (sc (oC ent150 rfl) (c_wholeR _ ((s.drop k).take (spanA isNm s k - k)) hwl) rfl fun v_ w12 h_ => ?_)))))))))
        obtain ⟨rfl, E_⟩ := h_
        replace Bg1 := Bg1.mod0 E_
        replace E := E.then E_
        refine tW 5 rfl (Ln (e_K (hK20 _ _ _ _ (Cq fun K21 hK21 => Cq fun K22 hK22 => Cr (tW 2 rfl (Ln (e_K (hK22 _ _ _ _ ?_))))))))
        refine c_cond rfl (fun h72 => ?_) (fun h72 => ?_)
        ·have hR := numA_no (s := s) (k := k) (e := 4) (by unfold numW; rw [if_pos (by simpa using h72)])
         refine Cq fun K23 hK23 => Cr (Sv (o_build (cs := [_, _, _, _, _, _]) pl25 zv25 rfl rfl) (s_sta (vs := [_, _, _, _, _, _]) ag25 Bg1 rfl rfl rfl (by simp [Value.oneCell']) (by simp) fun w13 P13 => ?_))
         replace E := E.own P13.mod Lg1_E
         replace Bg1 : Blk w13 g1 _ [_, _, _, _, _, _] := P13.blk
         exact tW 2 rfl (Ln (e_K (hK23 _ _ _ _ (cR (eT (by simp) (retctt (vs := [_, _, _, _, _, _]) rfl ag25 rfl rfl (Bg1.cs rfl) rfl rfl (RRes.no hR JV.nul_reps E)))))))
        ·have hrt : ¬ (wholeA ((s.drop k).take (spanA isNm s k - k))).1 = false := by simpa using h72
         refine cK (e_K (hK21 _ _ _ _ (Cq fun K24 hK24 => Cr (Zm rfl (sc (oC ent151 rfl) (c_atoi _ ((s.drop k).take (spanA isNm s k - k)) hwl (hE.mod0 E).err) rfl fun v_ w14 h_ => ?_)))))
         obtain ⟨n, er, rfl, hat, E_⟩ := h_
         replace Bg1 := Bg1.mod0 E_
         replace E := E.then E_
         obtain ⟨hb1, hb2⟩ := atoi_b hat
         refine tW 5 rfl (Ln (e_K (hK24 _ _ _ _ (Cq fun K25 hK25 => Cq fun K26 hK26 => Cr (Zm rfl ?_)))))
         refine bC (fun hm : ((wholeA ((s.drop k).take (spanA isNm s k - k))).2) = true => ?_) (fun hm => ?_)
         ·refine tW 14 rfl (Ln (e_K (hK26 _ _ _ _ (c_true rfl ?_))))
          have hR := numA_no (s := s) (k := k) (e := 7) (by first | exact numW_more hrt hm | exact numW_bad hat hrt (by rintro ⟨q1, q2, q3⟩; first | exact hi0 q1 | omega))
          refine Cq fun K27 hK27 => Cr (Sv (o_build (cs := [_, _, _, _, _, _]) pl25 zv25 rfl rfl) (s_sta (vs := [_, _, _, _, _, _]) ag25 Bg1 rfl rfl rfl (by simp [Value.oneCell']) (by simp) fun w15 P15 => ?_))
          replace E := E.own P15.mod Lg1_E
          replace Bg1 : Blk w15 g1 _ [_, _, _, _, _, _] := P15.blk
          exact tW 2 rfl (Ln (e_K (hK27 _ _ _ _ (cR (eT (by simp) (retctt (vs := [_, _, _, _, _, _]) rfl ag25 rfl rfl (Bg1.cs rfl) rfl rfl (RRes.no hR JV.nul_reps E)))))))
         ·refine tW 2 rfl (sgc rfl rfl (oC ent109 rfl) (c_itoa _ n hb1 hb2 (hE.mod0 E).tab) rfl fun v_ w16 h_ => ?_)
          obtain ⟨rfl, E_⟩ := h_
          replace Bg1 := Bg1.mod0 E_
          replace E := E.then E_
          refine Sg rfl rfl (oM rfl) (Sg rfl rfl (o_sne rfl rfl) ?_)
          refine bD (fun hi0 : Lib.itoa n ≠ ((s.drop k).take (spanA isNm s k - k)) => ?_) (fun hi0 => ?_)
          ·refine tW 9 rfl (Ln (e_K (hK26 _ _ _ _ (c_true rfl ?_))))
           have hR := numA_no (s := s) (k := k) (e := 7) (by first | exact numW_more hrt hm | exact numW_bad hat hrt (by rintro ⟨q1, q2, q3⟩; first | exact hi0 q1 | omega))
           refine Cq fun K28 hK28 => Cr (Sv (o_build (cs := [_, _, _, _, _, _]) pl25 zv25 rfl rfl) (s_sta (vs := [_, _, _, _, _, _]) ag25 Bg1 rfl rfl rfl (by simp [Value.oneCell']) (by simp) fun w17 P17 => ?_))
           replace E := E.own P17.mod Lg1_E
           replace Bg1 : Blk w17 g1 _ [_, _, _, _, _, _] := P17.blk
           exact tW 2 rfl (Ln (e_K (hK28 _ _ _ _ (cR (eT (by simp) (retctt (vs := [_, _, _, _, _, _]) rfl ag25 rfl rfl (Bg1.cs rfl) rfl rfl (RRes.no hR JV.nul_reps E)))))))
          ·refine tW 4 rfl ?_
           refine bD (fun hi1 : n > 9007199254740991 => ?_) (fun hi1 => ?_)
           ·refine tW 5 rfl (Ln (e_K (hK26 _ _ _ _ (c_true rfl ?_))))
            have hR := numA_no (s := s) (k := k) (e := 7) (by first | exact numW_more hrt hm | exact numW_bad hat hrt (by rintro ⟨q1, q2, q3⟩; first | exact hi0 q1 | omega))
            refine Cq fun K29 hK29 => Cr (Sv (o_build (cs := [_, _, _, _, _, _]) pl25 zv25 rfl rfl) (s_sta (vs := [_, _, _, _, _, _]) ag25 Bg1 rfl rfl rfl (by simp [Value.oneCell']) (by simp) fun w18 P18 => ?_))
            replace E := E.own P18.mod Lg1_E
            replace Bg1 : Blk w18 g1 _ [_, _, _, _, _, _] := P18.blk
            exact tW 2 rfl (Ln (e_K (hK29 _ _ _ _ (cR (eT (by simp) (retctt (vs := [_, _, _, _, _, _]) rfl ag25 rfl rfl (Bg1.cs rfl) rfl rfl (RRes.no hR JV.nul_reps E)))))))
           ·refine tW 4 rfl ?_
            refine bD (fun hi2 : n < -9007199254740991 => ?_) (fun hi2 => ?_)
            ·refine Sv (oF rfl rfl rfl) (Ln (e_K (hK26 _ _ _ _ (c_true rfl ?_))))
             have hR := numA_no (s := s) (k := k) (e := 7) (by first | exact numW_more hrt hm | exact numW_bad hat hrt (by rintro ⟨q1, q2, q3⟩; first | exact hi0 q1 | omega))
             refine Cq fun K30 hK30 => Cr (Sv (o_build (cs := [_, _, _, _, _, _]) pl25 zv25 rfl rfl) (s_sta (vs := [_, _, _, _, _, _]) ag25 Bg1 rfl rfl rfl (by simp [Value.oneCell']) (by simp) fun w19 P19 => ?_))
             replace E := E.own P19.mod Lg1_E
             replace Bg1 : Blk w19 g1 _ [_, _, _, _, _, _] := P19.blk
             exact tW 2 rfl (Ln (e_K (hK30 _ _ _ _ (cR (eT (by simp) (retctt (vs := [_, _, _, _, _, _]) rfl ag25 rfl rfl (Bg1.cs rfl) rfl rfl (RRes.no hR JV.nul_reps E)))))))
            ·refine Sv (oF rfl rfl rfl) (Ln (e_K (hK26 _ _ _ _ (c_false rfl ?_))))
             have hR := numA_yes (s := s) (k := k) (numW_okZ hrt (Classical.not_not.1 hi0) (by omega) (by omega))
             refine cK (e_K (hK25 _ _ _ _ (Cq fun K31 hK31 => Cr (Zm rfl (Sv (o_build (cs := [_, _, _, _, _, _]) pl25 zv25 rfl rfl) (Zm rfl (s_sta (vs := [_, _, _, _, _, _]) ag25 Bg1 rfl rfl rfl (by simp [Value.oneCell']) (by simp) fun w20 P20 => ?_)))))))
             replace E := E.own P20.mod Lg1_E
             replace Bg1 : Blk w20 g1 _ [_, _, _, _, _, _] := P20.blk
             exact tW 2 rfl (Ln (e_K (hK31 _ _ _ _ (cR (retctt (vs := [_, _, _, _, _, _]) rfl ag25 rfl rfl (Bg1.cs rfl) rfl rfl (RRes.yes (by rw [hR, hpe]) JV.num_reps E))))))
 ·refine tW 42 rfl (Ln (e_K (hK5 _ _ _ _ (c_false rfl ?_))))
  have hpe : p = spanA isNm s k := by
   rw [← hsp]
   first | exact (spanA_end (by omega)).symm | exact (spanA_stop hc (nm_not (by omega))).symm
  refine c_exit (eT (by simp) (eT (by simp) (e_hit (e_K (hK3 _ _ _ _ (Cq fun K32 hK32 => ?_))))))
  have hwl : ((s.drop k).take (spanA isNm s k - k)).length ≤ 1000000 := by rw [List.length_take, List.length_drop]; omega
  refine Cr (tW 3 rfl (Sv ((o_ssl Tryz.underlying9 rfl rfl rfl (by simp only [loV, hiV]; omega)).to (v' := S ((s.drop k).take (spanA isNm s k - k))) (by simp only [loV, hiV, Int.toNat_natCast]; rw [hpe])) (Za rfl (Ln (e_K (hK32 _ _ _ _ (Cq fun K33 hK33 => Cr (Zm rfl (sc (oC ent150 rfl) (c_wholeR _ ((s.drop k).take (spanA isNm s k - k)) hwl) rfl fun v_ w21 h_ => ?_)))))))))
  obtain ⟨rfl, E_⟩ := h_
  replace Bg1 := Bg1.mod0 E_
  replace E := E.then E_
  refine tW 5 rfl (Ln (e_K (hK33 _ _ _ _ (Cq fun K34 hK34 => Cq fun K35 hK35 => Cr (tW 2 rfl (Ln (e_K (hK35 _ _ _ _ ?_))))))))
  refine c_cond rfl (fun h72 => ?_) (fun h72 => ?_)
  ·have hR := numA_no (s := s) (k := k) (e := 4) (by unfold numW; rw [if_pos (by simpa using h72)])
   refine Cq fun K36 hK36 => Cr (Sv (o_build (cs := [_, _, _, _, _, _]) pl25 zv25 rfl rfl) (s_sta (vs := [_, _, _, _, _, _]) ag25 Bg1 rfl rfl rfl (by simp [Value.oneCell']) (by simp) fun w22 P22 => ?_))
   replace E := E.own P22.mod Lg1_E
   replace Bg1 : Blk w22 g1 _ [_, _, _, _, _, _] := P22.blk
   exact tW 2 rfl (Ln (e_K (hK36 _ _ _ _ (cR (eT (by simp) (retctt (vs := [_, _, _, _, _, _]) rfl ag25 rfl rfl (Bg1.cs rfl) rfl rfl (RRes.no hR JV.nul_reps E)))))))
  ·have hrt : ¬ (wholeA ((s.drop k).take (spanA isNm s k - k))).1 = false := by simpa using h72
   refine cK (e_K (hK34 _ _ _ _ (Cq fun K37 hK37 => Cr (Zm rfl (sc (oC ent151 rfl) (c_atoi _ ((s.drop k).take (spanA isNm s k - k)) hwl (hE.mod0 E).err) rfl fun v_ w23 h_ => ?_)))))
   obtain ⟨n, er, rfl, hat, E_⟩ := h_
   replace Bg1 := Bg1.mod0 E_
   replace E := E.then E_
   obtain ⟨hb1, hb2⟩ := atoi_b hat
   refine tW 5 rfl (Ln (e_K (hK37 _ _ _ _ (Cq fun K38 hK38 => Cq fun K39 hK39 => Cr (Zm rfl ?_)))))
   refine bC (fun hm : ((wholeA ((s.drop k).take (spanA isNm s k - k))).2) = true => ?_) (fun hm => ?_)
   ·refine tW 14 rfl (Ln (e_K (hK39 _ _ _ _ (c_true rfl ?_))))
    have hR := numA_no (s := s) (k := k) (e := 7) (by first | exact numW_more hrt hm | exact numW_bad hat hrt (by rintro ⟨q1, q2, q3⟩; first | exact hi0 q1 | omega))
    refine Cq fun K40 hK40 => Cr (Sv (o_build (cs := [_, _, _, _, _, _]) pl25 zv25 rfl rfl) (s_sta (vs := [_, _, _, _, _, _]) ag25 Bg1 rfl rfl rfl (by simp [Value.oneCell']) (by simp) fun w24 P24 => ?_))
    replace E := E.own P24.mod Lg1_E
    replace Bg1 : Blk w24 g1 _ [_, _, _, _, _, _] := P24.blk
    exact tW 2 rfl (Ln (e_K (hK40 _ _ _ _ (cR (eT (by simp) (retctt (vs := [_, _, _, _, _, _]) rfl ag25 rfl rfl (Bg1.cs rfl) rfl rfl (RRes.no hR JV.nul_reps E)))))))
   ·refine tW 2 rfl (sgc rfl rfl (oC ent109 rfl) (c_itoa _ n hb1 hb2 (hE.mod0 E).tab) rfl fun v_ w25 h_ => ?_)
    obtain ⟨rfl, E_⟩ := h_
    replace Bg1 := Bg1.mod0 E_
    replace E := E.then E_
    refine Sg rfl rfl (oM rfl) (Sg rfl rfl (o_sne rfl rfl) ?_)
    refine bD (fun hi0 : Lib.itoa n ≠ ((s.drop k).take (spanA isNm s k - k)) => ?_) (fun hi0 => ?_)
    ·refine tW 9 rfl (Ln (e_K (hK39 _ _ _ _ (c_true rfl ?_))))
     have hR := numA_no (s := s) (k := k) (e := 7) (by first | exact numW_more hrt hm | exact numW_bad hat hrt (by rintro ⟨q1, q2, q3⟩; first | exact hi0 q1 | omega))
     refine Cq fun K41 hK41 => Cr (Sv (o_build (cs := [_, _, _, _, _, _]) pl25 zv25 rfl rfl) (s_sta (vs := [_, _, _, _, _, _]) ag25 Bg1 rfl rfl rfl (by simp [Value.oneCell']) (by simp) fun w26 P26 => ?_))
     replace E := E.own P26.mod Lg1_E
     replace Bg1 : Blk w26 g1 _ [_, _, _, _, _, _] := P26.blk
     exact tW 2 rfl (Ln (e_K (hK41 _ _ _ _ (cR (eT (by simp) (retctt (vs := [_, _, _, _, _, _]) rfl ag25 rfl rfl (Bg1.cs rfl) rfl rfl (RRes.no hR JV.nul_reps E)))))))
    ·refine tW 4 rfl ?_
     refine bD (fun hi1 : n > 9007199254740991 => ?_) (fun hi1 => ?_)
     ·refine tW 5 rfl (Ln (e_K (hK39 _ _ _ _ (c_true rfl ?_))))
      have hR := numA_no (s := s) (k := k) (e := 7) (by first | exact numW_more hrt hm | exact numW_bad hat hrt (by rintro ⟨q1, q2, q3⟩; first | exact hi0 q1 | omega))
      refine Cq fun K42 hK42 => Cr (Sv (o_build (cs := [_, _, _, _, _, _]) pl25 zv25 rfl rfl) (s_sta (vs := [_, _, _, _, _, _]) ag25 Bg1 rfl rfl rfl (by simp [Value.oneCell']) (by simp) fun w27 P27 => ?_))
      replace E := E.own P27.mod Lg1_E
      replace Bg1 : Blk w27 g1 _ [_, _, _, _, _, _] := P27.blk
      exact tW 2 rfl (Ln (e_K (hK42 _ _ _ _ (cR (eT (by simp) (retctt (vs := [_, _, _, _, _, _]) rfl ag25 rfl rfl (Bg1.cs rfl) rfl rfl (RRes.no hR JV.nul_reps E)))))))
     ·refine tW 4 rfl ?_
      refine bD (fun hi2 : n < -9007199254740991 => ?_) (fun hi2 => ?_)
      ·refine Sv (oF rfl rfl rfl) (Ln (e_K (hK39 _ _ _ _ (c_true rfl ?_))))
       have hR := numA_no (s := s) (k := k) (e := 7) (by first | exact numW_more hrt hm | exact numW_bad hat hrt (by rintro ⟨q1, q2, q3⟩; first | exact hi0 q1 | omega))
       refine Cq fun K43 hK43 => Cr (Sv (o_build (cs := [_, _, _, _, _, _]) pl25 zv25 rfl rfl) (s_sta (vs := [_, _, _, _, _, _]) ag25 Bg1 rfl rfl rfl (by simp [Value.oneCell']) (by simp) fun w28 P28 => ?_))
       replace E := E.own P28.mod Lg1_E
       replace Bg1 : Blk w28 g1 _ [_, _, _, _, _, _] := P28.blk
       exact tW 2 rfl (Ln (e_K (hK43 _ _ _ _ (cR (eT (by simp) (retctt (vs := [_, _, _, _, _, _]) rfl ag25 rfl rfl (Bg1.cs rfl) rfl rfl (RRes.no hR JV.nul_reps E)))))))
      ·refine Sv (oF rfl rfl rfl) (Ln (e_K (hK39 _ _ _ _ (c_false rfl ?_))))
       have hR := numA_yes (s := s) (k := k) (numW_okZ hrt (Classical.not_not.1 hi0) (by omega) (by omega))
       refine cK (e_K (hK38 _ _ _ _ (Cq fun K44 hK44 => Cr (Zm rfl (Sv (o_build (cs := [_, _, _, _, _, _]) pl25 zv25 rfl rfl) (Zm rfl (s_sta (vs := [_, _, _, _, _, _]) ag25 Bg1 rfl rfl rfl (by simp [Value.oneCell']) (by simp) fun w29 P29 => ?_)))))))
       replace E := E.own P29.mod Lg1_E
       replace Bg1 : Blk w29 g1 _ [_, _, _, _, _, _] := P29.blk
       exact tW 2 rfl (Ln (e_K (hK44 _ _ _ _ (cR (retctt (vs := [_, _, _, _, _, _]) rfl ag25 rfl rfl (Bg1.cs rfl) rfl rfl (RRes.yes (by rw [hR, hpe]) JV.num_reps E))))))
end Go.Proofs.YtknndpjacklkeaaGreatDoor.V

set_option linter.unusedVariables false
set_option linter.unusedSimpArgs false
namespace Go.Proofs.YtknndpjacklkeaaGreatDoor.V
open Go
end Go.Proofs.YtknndpjacklkeaaGreatDoor.V

set_option linter.unusedVariables false
set_option linter.unusedSimpArgs false
namespace Go.Proofs.YtknndpjacklkeaaGreatDoor.V
open Go
theorem bare_numV {n : Int} (h0 : -9007199254740991 ≤ n) (h1 : n ≤ 9007199254740991) : (JV.numV n).bare = true := by
 simp [JV.bare, JV.numV, JV.kind, JV.is, JV.num, JV.str, JV.list, JV.map]
 exact decide_eq_true ⟨h0, h1⟩
theorem bare_lst {l : List JV} : (JV.lst l).bare = true := by
 simp [JV.bare, JV.lst, JV.kind, JV.is, JV.num, JV.str, JV.list, JV.map]
theorem keyA_ne {s : Str} {k : Nat} {m : List (Str × JV)} {e : Int} (h : keyA s k m = .error e) : e ≠ 0 := by
 unfold keyA at h
 split at h
 ·injection h with h; omega
 ·split at h
  ·injection h with h; omega
  ·split at h
   ·cases h
   ·injection h with h; omega
theorem numA_ne {s : Str} {k : Nat} {e : Int} (h : numA s k = .error e) : e ≠ 0 := by
 unfold numA at h
 cases hn : numW ((s.drop k).take (spanA isNm s k - k)) with
 | ok n => rw [hn] at h; cases h
 | error e' =>
  rw [hn] at h
  injection h with h
  subst h
  unfold numW at hn
  split at hn
  ·injection hn with hn; omega
  ·split at hn
   ·injection hn with hn; omega
   ·cases hn
theorem tk_ne (s : Str) : ∀ f : Nat, (∀ k deep e, tkV f s k deep = some (.error e) → e ≠ 0) ∧ (∀ k deep acc e, tkL f s k deep acc = some (.error e) → e ≠ 0) ∧ (∀ k deep m e, tkM f s k deep m = some (.error e) → e ≠ 0)
 | 0 => ⟨fun _ _ _ h => by simp [tkV] at h, fun _ _ _ _ h => by simp [tkL] at h, fun _ _ _ _ h => by simp [tkM] at h⟩
 | f + 1 => by
  obtain ⟨ihV, ihL, ihM⟩ := tk_ne s f
  refine ⟨fun k0 deep e h => ?_, fun k deep acc e h => ?_, fun k deep m e h => ?_⟩
  ·rw [tkV] at h
   generalize spanA isWs s k0 = k at h
   dsimp only at h
   split at h; · cases h
   split at h; · cases h
   split at h; · cases h
   split at h
   ·split at h
    ·injection h with h; injection h with h; omega
    ·cases h
   split at h
   ·split at h
    ·injection h with h; injection h with h; omega
    ·split at h
     ·split at h
      ·cases h
      ·exact ihL _ _ _ _ h
     ·split at h
      ·cases h
      ·exact ihM _ _ _ _ h
   ·injection h with h
    exact numA_ne h
  ·rw [tkL] at h
   split at h
   ·cases h
   ·rename_i h1
    injection h with h; injection h with h; subst h
    exact ihV _ _ _ h1
   ·dsimp only at h
    split at h
    ·cases h
    ·split at h
     ·exact ihL _ _ _ _ h
     ·injection h with h; injection h with h; omega
  ·rw [tkM] at h
   split at h
   ·rename_i h1
    injection h with h; injection h with h; subst h
    exact keyA_ne h1
   ·split at h
    ·cases h
    ·rename_i h1
     injection h with h; injection h with h; subst h
     exact ihV _ _ _ h1
    ·dsimp only at h
     split at h
     ·cases h
     ·split at h
      ·exact ihM _ _ _ _ h
      ·injection h with h; injection h with h; omega
end Go.Proofs.YtknndpjacklkeaaGreatDoor.V

set_option linter.unusedVariables false
set_option linter.unusedSimpArgs false
set_option maxRecDepth 10000
namespace Go.Proofs.YtknndpjacklkeaaGreatDoor.V
open Go Go.Proofs
theorem ent54 : Ent Tryz.prog 54 := Ent.of Tryz.func54 (by kernel_rfl) (by kernel_rfl)
theorem ent55 : Ent Tryz.prog 55 := Ent.of Tryz.func55 (by kernel_rfl) (by kernel_rfl)
def TkOK (N : Nat) : Prop := ∀ (f : Nat), f ≤ N → ∀ (A : List Nat) (w : World) (s : Str) (k deep : Nat) (r : PR), (∀ a ∈ A, a < w.heap.size) → k ≤ s.length → s.length ≤ 65536 → deep ≤ 32 → Env w → tkV f s k deep = some r → Calls Tryz.prog 54 [S s, .int .i64 (k : Int), .int .i64 (deep : Int)].toArray w (Ret fun u w' => RRes A w w' r u)
theorem GL.put {A : List Nat} {w0 w w' : World} {e sz n : Nat} {wv : Value} {rows : List (List D)} {vs : List Value} {M : List Nat} (G : GL A w0 w e sz wv n rows vs) (k : Mod M w w') (hM : ∀ x ∈ M, x ∈ A) : GL A w0 w' e sz wv n rows vs :=
 ⟨G.own.mod k (fun x hx h => G.dj x hx (hM x h)), G.rd.toM k (fun x hx => List.mem_append_left _ (hM x hx)), G.fr, G.dj, fun a ha => Nat.lt_of_lt_of_le (G.al a ha) k.size⟩
theorem rE_no {r : PR} (h : rE r ≠ 0) : ∃ e, r = .error e := by
 cases r with
 | ok x => exact absurd rfl h
 | error e => exact ⟨e, rfl⟩
theorem rE_ok {s : Str} {f k deep : Nat} {r : PR} (hr : tkV f s k deep = some r) (h : rE r = 0) : ∃ x k1, r = .ok (x, k1) := by
 cases r with
 | ok x => exact ⟨x.1, x.2, rfl⟩
 | error e => exact absurd h ((tk_ne s f).1 _ _ _ hr)
theorem tkV_ex {f : Nat} {s : Str} {k deep : Nat} {r : PR} {F : Int → Option PR} {G : JV → Nat → Option PR} (h : (match tkV f s k deep with | none => none | some (.error e) => F e | some (.ok (x, k1)) => G x k1) = some r) : ∃ r1, tkV f s k deep = some r1 := by
 cases h1 : tkV f s k deep with
 | none => rw [h1] at h; cases h
 | some r1 => exact ⟨r1, rfl⟩

theorem c_listR (N : Nat) (ih : TkOK N) (A : List Nat) (w : World) (s : Str) (k deep : Nat) (r : PR) (f : Nat) (hA : ∀ a ∈ A, a < w.heap.size) (hk : k ≤ s.length) (hs : s.length ≤ 65536) (hd : deep ≤ 32) (hE : Env w) (hf : f ≤ N + 1) (hr : (if hasA s (spanA isWs s k) [93] then some (.ok (JV.lst [], spanA isWs s k + 1)) else tkL f s (spanA isWs s k) deep []) = some r) : Calls Tryz.prog 103 [S s, .int .i64 (k : Int), .int .i64 (deep : Int)].toArray w (Ret fun u w' => RRes A w w' r u) := by
 refine enter Tryz.func103 rfl rfl rfl (l := [(0, _), (1, _), (2, _)]) ⟨rfl, rfl, rfl, trivial⟩ ?_
 have E := Mod.refl [] w
 refine Cq fun K1 hK1 => Cr (s_alloc zv25 rfl fun g1 w1 N1 => ?_)
 have Lg1_E := N1.le E
 replace E := E.then N1.mod
 have Bg1 := N1.blk
 refine tW 2 rfl (Ln (e_K (hK1 _ _ _ _ (Cq fun K2 hK2 => Cr (Sv (o_build (cs := [_, _, _, _, _, _]) pl25 zv25 rfl rfl) (s_alloc zv25 rfl fun g2 w2 N2 => ?_))))))
 have Lg2_E := N2.le E
 have Dg1_g2 := N2.ne Bg1
 replace Bg1 := Bg1.mod0 N2.mod
 replace E := E.then N2.mod
 have Bg2 := N2.blk
 refine s_sta (vs := [_, _, _, _, _, _]) ag25 Bg2 rfl rfl rfl (by simp [Value.oneCell']) (by simp) fun w3 P3 => ?_
 replace Bg1 := Bg1.ne P3.mod (Ne.symm (Ne.symm Dg1_g2))
 replace E := E.own P3.mod Lg2_E
 replace Bg2 : Blk w3 g2 _ [_, _, _, _, _, _] := P3.blk
 refine Ln (e_K (hK2 _ _ _ _ (Cq fun K3 hK3 => Cr (tW 2 rfl (sc (oC ent55 rfl) (c_blankR _ s k hk (by omega)) rfl fun v_ w4 h_ => ?_)))))
 obtain ⟨rfl, E_⟩ := h_
 replace Bg1 := Bg1.mod0 E_
 replace Bg2 := Bg2.mod0 E_
 replace E := E.then E_
 have hgk1 := spanA_ge isWs s k
 have hlk1 : spanA isWs s k ≤ s.length := spanA_le hk
 obtain ⟨k1, ek1⟩ : ∃ q, q = spanA isWs s k := ⟨_, rfl⟩
 rw [← ek1] at hgk1 hlk1 ⊢ hr
 refine Za rfl (Ln (e_K (hK3 _ _ _ _ (Cq fun K4 hK4 => Cq fun K5 hK5 => Cr (tW 2 rfl (sc (oC ent101 rfl) (c_hasR _ s [93] k1 (by omega) (by omega)) rfl fun v_ w5 h_ => ?_))))))
 obtain ⟨rfl, E_⟩ := h_
 replace Bg1 := Bg1.mod0 E_
 replace Bg2 := Bg2.mod0 E_
 replace E := E.then E_
 refine Ln (e_K (hK5 _ _ _ _ ?_))
 refine c_cond rfl (fun h19 => ?_) (fun h19 => ?_)
 ·rw [if_pos h19] at hr
  injection hr with hr
  refine Cq fun K6 hK6 => Cr (Sv (o_lda (vs := [_, _, _, _, _, _]) ag25 rfl rfl (Bg2.cs rfl)) (Zm rfl (Sv (o_addE (r := ((k1 + 1 : Nat) : Int)) rfl rfl (by rw [wrap64_in _ (by omega)]; omega)) (s_sta (vs := [_, _, _, _, _, _]) ag25 Bg1 rfl rfl rfl (by simp [Value.oneCell']) (by simp) fun w6 P6 => ?_))))
  replace Bg2 := Bg2.ne P6.mod (Ne.symm Dg1_g2)
  replace E := E.own P6.mod Lg1_E
  replace Bg1 : Blk w6 g1 _ [_, _, _, _, _, _] := P6.blk
  exact tW 2 rfl (Ln (e_K (hK6 _ _ _ _ (cR (eT (by simp) (retctt (vs := [_, _, _, _, _, _]) rfl ag25 rfl rfl (Bg1.cs rfl) rfl rfl (RRes.yes hr.symm (JV.lst_repsN (l := []) rfl Rep.sl_nil) E)))))))
 ·rw [if_neg (by rw [h19]; simp)] at hr
  refine cK (e_K (hK4 _ _ _ _ (cB (c_loop (σ := Nat × Nat × List JV × Value × List Value) (fun ⟨m, j, acc, wv, vs⟩ => [(0, S s), (1, .int .i64 (j : Int)), (2, .int .i64 (deep : Int)), (6, .pointer (some ⟨g1, 0, none⟩)), (9, .pointer (some ⟨g2, 0, none⟩))]) (fun ⟨m, j, acc, wv, vs⟩ w1 => (m ≤ f ∧ j ≤ s.length ∧ acc.length ≤ j ∧ tkL m s j deep acc = some r) ∧ GL (g1 :: g2 :: A) w w1 25 6 wv acc.length (acc.map JV.D) vs ∧ Blk w1 g2 25 [.int .i64 4, .bool false, .int .i64 0, S [], wv, .slice none 0 0] ∧ Blk w1 g1 25 [.int .i64 0, .bool false, .int .i64 0, S [], .slice none 0 0, .slice none 0 0] ∧ Mod [] w w1) (fun ⟨m, j, acc, wv, vs⟩ => m) (⟨f, k1, [], .slice none 0 0, []⟩) ⟨rfl, rfl, rfl, rfl, rfl, trivial⟩ (⟨⟨by omega, by omega, by simp, hr⟩, GL.nil (fun a ha => by rcases List.mem_cons.1 ha with rfl | ha; exact Bg1.lt; rcases List.mem_cons.1 ha with rfl | ha; exact Bg2.lt; exact Nat.lt_of_lt_of_le (hA a ha) E.size), Bg2, Bg1, E⟩) ?_))))
  rintro ⟨m, j, acc, wv, vs⟩ w7 ⟨⟨hm, hj, hal, hrL⟩, GG, Bg2, Bg1, E⟩
  obtain ⟨q, rfl⟩ : ∃ q, m = q + 1 := by
   cases m with
   | zero => simp [tkL] at hrL
   | succ q => exact ⟨q, rfl⟩
  rw [tkL] at hrL
  obtain ⟨r1, hr1⟩ := tkV_ex hrL
  rw [hr1] at hrL
  have Ek := Mod.refl [] w7
  refine cB (Cq fun K7 hK7 => Cr (tW 3 rfl (sc (oC ent54 rfl) (ih q (by omega) ((g1 :: g2 :: A) ++ ob wv) _ s j deep r1 (GG.mod0 Ek).lt hj hs hd (hE.mod0 E) hr1) rfl fun v_ w8 h_ => ?_)))
  obtain ⟨us3, rfl, Rx, E_⟩ := h_
  replace Bg1 := Bg1.mod0 E_
  replace Bg2 := Bg2.mod0 E_
  replace E := E.then E_
  replace Ek := Ek.then E_
  obtain ⟨al3, cl3, am3, cm3, rfl, Rl3, Rm3⟩ := JV.cells_ Rx
  replace Rx := JV.reps_ Rl3 Rm3
  have Ekr3 := Mod.refl [] w8
  refine tW 4 rfl (s_alloc zv25 rfl fun g3 w9 N3 => ?_)
  have Lg3_E := N3.le E
  have Lg3_Ek := N3.le Ek
  have Lg3_Ekr3 := N3.le Ekr3
  have Dg1_g3 := N3.ne Bg1
  have Dg2_g3 := N3.ne Bg2
  replace Bg1 := Bg1.mod0 N3.mod
  replace Bg2 := Bg2.mod0 N3.mod
  replace E := E.then N3.mod
  replace Ek := Ek.then N3.mod
  replace Ekr3 := Ekr3.then N3.mod
  have Bg3 := N3.blk
  refine s_sta (vs := [_, _, _, _, _, _]) ag25 Bg3 rfl rfl rfl (by simp [Value.oneCell']) (by simp) fun w10 P10 => ?_
  replace Bg1 := Bg1.ne P10.mod (Ne.symm (Ne.symm Dg1_g3))
  replace Bg2 := Bg2.ne P10.mod (Ne.symm (Ne.symm Dg2_g3))
  replace E := E.own P10.mod Lg3_E
  replace Ek := Ek.own P10.mod Lg3_Ek
  replace Ekr3 := Ekr3.own P10.mod Lg3_Ekr3
  replace Bg3 : Blk w10 g3 _ [_, _, _, _, _, _] := P10.blk
  refine tW 2 rfl (Ln (e_K (hK7 _ _ _ _ (Cq fun K8 hK8 => Cq fun K9 hK9 => Cr (tW 2 rfl (Ln (e_K (hK9 _ _ _ _ ?_))))))))
  refine c_if rfl (fun h32 => ?_) (fun h32 => ?_)
  ·obtain ⟨e, rfl⟩ := rE_no h32
   have hR : r = .error e := by injection hrL with hrL; exact hrL.symm
   refine Cq fun K10 hK10 => Cr (Sv (o_build (cs := [_, _, _, _, _, _]) pl25 zv25 rfl rfl) (Zm rfl (s_sta (vs := [_, _, _, _, _, _]) ag25 Bg1 rfl rfl rfl (by simp [Value.oneCell']) (by simp) fun w11 P11 => ?_)))
   replace Bg2 := Bg2.ne P11.mod (Ne.symm Dg1_g2)
   replace Bg3 := Bg3.ne P11.mod (Ne.symm Dg1_g3)
   replace E := E.own P11.mod Lg1_E
   replace Bg1 : Blk w11 g1 _ [_, _, _, _, _, _] := P11.blk
   exact tW 2 rfl (Ln (e_K (hK10 _ _ _ _ (cR (eT (by simp) (eI (by simp) (eT (by simp) (eI (by simp) (retctt (vs := [_, _, _, _, _, _]) rfl ag25 rfl rfl (Bg1.cs rfl) rfl rfl (RRes.no hR JV.nul_reps E))))))))))
  ·obtain ⟨x, k2, rfl⟩ := rE_ok hr1 (Classical.not_not.1 h32)
   have hJ := (tk_bound s q).1 _ _ _ _ hj hr1
   dsimp only at hrL
   refine cK (e_K (hK8 _ _ _ _ (Cq fun K11 hK11 => Cr (Sv (oA0 fd25_4 rfl) (Sv (oL sc22 rfl (Bg2.cell rfl)) (Sv (o_lda (vs := [_, _, _, _, _, _]) ag25 rfl rfl (Bg3.cs rfl)) (s_bslice (cs := [_, _, _, _, _, _]) sl22 zv25 rfl rfl rfl (by decide) rfl fun g4 w12 N4 => ?_)))))))
   have Lg4_E := N4.le E
   have Lg4_Ek := N4.le Ek
   have Lg4_Ekr3 := N4.le Ekr3
   have Dg1_g4 := N4.ne Bg1
   have Dg2_g4 := N4.ne Bg2
   have Dg3_g4 := N4.ne Bg3
   replace Bg1 := Bg1.mod0 N4.mod
   replace Bg2 := Bg2.mod0 N4.mod
   replace Bg3 := Bg3.mod0 N4.mod
   replace E := E.then N4.mod
   replace Ek := Ek.then N4.mod
   replace Ekr3 := Ekr3.then N4.mod
   have Bg4 := N4.blk
   have GN := GG.mod0 Ek
   have RxN : Reps _ _ x.D _ := Rx.to0 Ekr3
   refine s_append sl22 rfl rfl GN.own (Src.own Tryz.underlying22 (Own.all (cs := [_, _, _, _, _, _]) Bg4 rfl (by omega)) (by simp [Value.oneCell', B8])) (by decide) (by omega) (by omega) rfl fun wv2 w13 AA => ?_
   replace Bg1 := Bg1.mod AA.mod (fun hx => GN.dj _ hx (by simp))
   replace Bg2 := Bg2.mod AA.mod (fun hx => GN.dj _ hx (by simp))
   have GG2 := (GN.app E AA rfl RxN).same (m := (acc ++ [x]).length) (rows' := (acc ++ [x]).map JV.D) (by simp) (by simp)
   replace E := E.trans' AA.mod (fun y hy => .inr (GN.fr y hy))
   obtain ⟨ad2, c2, rfl, hc1, hc2⟩ := GG2.own.form
   refine Sv (oA0 fd25_4 rfl) (s_st sc22 Bg2 rfl rfl rfl (by simp) fun w14 P14 => ?_)
   replace Bg1 := Bg1.ne P14.mod (Ne.symm (Ne.symm Dg1_g2))
   replace E := E.own P14.mod Lg2_E
   replace Bg2 : Blk w14 g2 _ [_, _, _, _, _, _] := P14.blk
   replace GG2 := GG2.put P14.mod (fun a ha => by simp [List.mem_singleton.1 ha])
   have Ekq := Mod.refl [] w14
   refine Ln (e_K (hK11 _ _ _ _ (Cq fun K12 hK12 => Cr (tW 2 rfl (sc (oC ent55 rfl) (c_blankR _ s k2 hJ.2 (by omega)) rfl fun v_ w15 h_ => ?_)))))
   obtain ⟨rfl, E_⟩ := h_
   replace Bg1 := Bg1.mod0 E_
   replace Bg2 := Bg2.mod0 E_
   replace E := E.then E_
   replace Ekq := Ekq.then E_
   have hgk3 := spanA_ge isWs s k2
   have hlk3 : spanA isWs s k2 ≤ s.length := spanA_le hJ.2
   obtain ⟨k3, ek3⟩ : ∃ q, q = spanA isWs s k2 := ⟨_, rfl⟩
   rw [← ek3] at hgk3 hlk3 ⊢ hrL
   refine Za rfl (Ln (e_K (hK12 _ _ _ _ (Cq fun K13 hK13 => Cq fun K14 hK14 => Cr (tW 2 rfl (sc (oC ent101 rfl) (c_hasR _ s [93] k3 (by omega) (by omega)) rfl fun v_ w16 h_ => ?_))))))
   obtain ⟨rfl, E_⟩ := h_
   replace Bg1 := Bg1.mod0 E_
   replace Bg2 := Bg2.mod0 E_
   replace E := E.then E_
   replace Ekq := Ekq.then E_
   refine Ln (e_K (hK14 _ _ _ _ ?_))
   refine c_cond rfl (fun h46 => ?_) (fun h46 => ?_)
   ·rw [if_pos h46] at hrL
    injection hrL with hrL
    refine Cq fun K15 hK15 => Cr ?_
    have RLf := ((GG2.mod0 Ekq).rep (fun r hr => by obtain ⟨x_, _, rfl⟩ := List.mem_map.1 hr; exact JV.D_len _) (by simp))
    refine Sv (o_lda (vs := [_, _, _, _, _, _]) ag25 rfl rfl (Bg2.cs rfl)) (Zm rfl (Sv (o_addE (r := ((k3 + 1 : Nat) : Int)) rfl rfl (by rw [wrap64_in _ (by omega)]; omega)) (s_sta (vs := [_, _, _, _, _, _]) ag25 Bg1 rfl rfl rfl (by simp [Value.oneCell']) (by simp) fun w17 P17 => ?_)))
    replace Bg2 := Bg2.ne P17.mod (Ne.symm Dg1_g2)
    replace E := E.own P17.mod Lg1_E
    replace Bg1 : Blk w17 g1 _ [_, _, _, _, _, _] := P17.blk
    replace RLf := RLf.toM P17.mod (fun a ha => by simp [List.mem_singleton.1 ha])
    exact tW 2 rfl (Ln (e_K (hK15 _ _ _ _ (cR (eT (by simp) (eI (by simp) (eT (by simp) (eI (by simp) (retctt (vs := [_, _, _, _, _, _]) rfl ag25 rfl rfl (Bg1.cs rfl) rfl rfl (RRes.yes hrL.symm (JV.lst_reps (RLf.anti (A' := A) (fun a ha => by simp [ha]))) E))))))))))
   ·rw [if_neg (by rw [h46]; simp)] at hrL
    refine cK (e_K (hK13 _ _ _ _ (Cq fun K16 hK16 => Cq fun K17 hK17 => Cr (tW 2 rfl (sc (oC ent101 rfl) (c_hasR _ s [44] k3 (by omega) (by omega)) rfl fun v_ w18 h_ => ?_)))))
    obtain ⟨rfl, E_⟩ := h_
    replace Bg1 := Bg1.mod0 E_
    replace Bg2 := Bg2.mod0 E_
    replace E := E.then E_
    replace Ekq := Ekq.then E_
    refine Sv (o_not rfl) (Ln (e_K (hK17 _ _ _ _ ?_)))
    refine c_cond rfl (fun h53 => ?_) (fun h53 => ?_)
    ·have hn53 : hasA s k3 [44] = false := by simpa using h53
     rw [if_neg (by rw [hn53]; simp)] at hrL
     injection hrL with hrL
     refine Cq fun K18 hK18 => Cr (Sv (o_build (cs := [_, _, _, _, _, _]) pl25 zv25 rfl rfl) (s_sta (vs := [_, _, _, _, _, _]) ag25 Bg1 rfl rfl rfl (by simp [Value.oneCell']) (by simp) fun w19 P19 => ?_))
     replace Bg2 := Bg2.ne P19.mod (Ne.symm Dg1_g2)
     replace E := E.own P19.mod Lg1_E
     replace Bg1 : Blk w19 g1 _ [_, _, _, _, _, _] := P19.blk
     exact tW 2 rfl (Ln (e_K (hK18 _ _ _ _ (cR (eT (by simp) (eI (by simp) (eT (by simp) (eI (by simp) (retctt (vs := [_, _, _, _, _, _]) rfl ag25 rfl rfl (Bg1.cs rfl) rfl rfl (RRes.no hrL.symm JV.nul_reps E))))))))))
    ·have hy53 : hasA s k3 [44] = true := by simpa using h53
     rw [if_pos hy53] at hrL
     have hl9 := hasA_len hy53 (by simp)
     simp only [List.length_singleton] at hl9
     exact cK (e_K (hK16 _ _ _ _ (Cr (Zm rfl (Sv (o_addE (r := ((k3 + 1 : Nat) : Int)) rfl rfl (by rw [wrap64_in _ (by omega)]; omega)) (Za rfl (Ln (eI (by simp) (eR (σ := Nat × Nat × List JV × Value × List Value) (s := ⟨q + 1, j, acc, wv, vs⟩) (⟨q, k3 + 1, acc ++ [x], _, vs ++ _⟩) ⟨rfl, rfl, rfl, rfl, rfl, trivial⟩ ⟨⟨by omega, by omega, by rw [List.length_append, List.length_singleton]; omega, hrL⟩, GG2.mod0 Ekq, Bg2, Bg1, E⟩ (by dsimp only; omega))))))))))
end Go.Proofs.YtknndpjacklkeaaGreatDoor.V
