/-
  A part of the proof: events: what they stand for in memory; whether one is greater than is played. No condition of its own.
-/
import Derived.Test.YtknndpjacklkeaaGreatDoorM6
import Derived.Test.YtknndpjacklkeaaGreatDoorM4
import Derived.Test.YtknndpjacklkeaaGreatDoorM3
set_option linter.unusedVariables false
set_option linter.unusedSimpArgs false
set_option maxRecDepth 10000
namespace Go.Proofs.YtknndpjacklkeaaGreatDoor.V
open Go Go.Proofs
theorem ent169 : Ent Tryz.prog 169 := Ent.of Tryz.func169 (by kernel_rfl) (by kernel_rfl)
theorem ent109 : Ent Tryz.prog 109 := Ent.of Tryz.func109 (by kernel_rfl) (by kernel_rfl)
theorem ent171 : Ent Tryz.prog 171 := Ent.of Tryz.func171 (by kernel_rfl) (by kernel_rfl)
theorem ent124 : Ent Tryz.prog 124 := Ent.of Tryz.func124 (by kernel_rfl) (by kernel_rfl)
theorem c_write_step (N : Nat) (ih : ∀ (w : World) (v : JV) (us : List Value) (deep : Nat) (b : Str) (u0 : Value), v.sz ≤ N → OwB w u0 b → b.length ≤ 65536 → Reps (ob u0) w v.D us → deep ≤ 32 → Tab w → gT ∉ ob u0 → Calls Tryz.prog 124 [u0, .agg us.toArray, .int .i64 (deep : Int)].toArray w (Ret fun u w' => WR w w' u0 (v.wr deep b) u)) (w : World) (v : JV) (us : List Value) (deep : Nat) (b : Str) (u0 : Value) (hN : v.sz ≤ N + 1) (O : OwB w u0 b) (hb : b.length ≤ 65536) (R : Reps (ob u0) w v.D us) (hd : deep ≤ 32) (hT : Tab w) (hgt : gT ∉ ob u0) : Calls Tryz.prog 124 [u0, .agg us.toArray, .int .i64 (deep : Int)].toArray w (Ret fun u w' => WR w w' u0 (v.wr deep b) u) := by
 refine enter Tryz.func124 rfl rfl rfl (l := [(0, _), (1, _), (2, _)]) ⟨rfl, rfl, rfl, trivial⟩ ?_
 have E := Mod.refl [] w
 obtain ⟨al, cl, am, cm, rfl, Rl, Rm⟩ := JV.cells_ R
 have R0 := (JV.reps_ Rl Rm).anti (A' := []) (by simp)
 refine Cq fun K1 hK1 => Cr (s_box rfl rfl rfl fun g1 w1 N1 => ?_)
 have Lg1_E := N1.le E
 replace E := E.then N1.mod
 have Bg1 := N1.blk
 refine tW 2 rfl (Ln (e_K (hK1 _ _ _ _ (Cq fun K2 hK2 => Cq fun K3 hK3 => Cr (Sv (o_lda (vs := [_, _, _, _, _, _]) ag25 rfl rfl (Bg1.cs rfl)) (sc (oC ent169 rfl) (c_bare _ v _ (R0.to0 E)) rfl fun v_ w2 h_ => ?_))))))
 obtain ⟨rfl, E_⟩ := h_
 replace Bg1 := Bg1.mod0 E_
 replace E := E.then E_
 refine Sv (o_not rfl) (Ln (e_K (hK3 _ _ _ _ ?_)))
 refine c_cond rfl (fun h15 => ?_) (fun h15 => ?_)
 ·have hr : v.wr deep b = .error 1 := by rw [JV.wr_eq, if_pos (by simpa using h15)]
  exact Cq fun K4 hK4 => Cr (tW 2 rfl (Ln (e_K (hK4 _ _ _ _ (cR (eT (by simp) (ret2 rfl rfl rfl (WR.err E (by decide) hr))))))))
 ·have hbare : v.bare = true := by simpa using h15
  have hne : ¬ v.bare = false := by rw [hbare]; simp
  refine cK (e_K (hK2 _ _ _ _ (Cq fun K5 hK5 => Cq fun K6 hK6 => Cr (Sv (oA0 fd25_0 rfl) (Sv (oL sc3 rfl (Bg1.cell rfl)) (Ln (e_K (hK6 _ _ _ _ (cB (Cq fun K7 hK7 => Cr (tW 2 rfl (Ln ?_))))))))))))
  refine e_K (hK7 _ _ _ _ ?_)
  refine c_if rfl (fun h18 => ?_) (fun h18 => ?_)
  ·have hr : v.wr deep b = lng (b ++ JV.tNull) := by rw [JV.wr_eq, if_neg hne, if_pos h18]
   refine Cq fun K8 hK8 => Cr (Zm rfl (s_append sl74 rfl rfl (O.mod0 E) (Src.str Tryz.underlying9 JV.tNull) (by decide) (by first | omega | (simp only [List.length_append, List.length_cons, List.length_nil] at *; omega)) (by first | omega | (simp only [List.length_append, List.length_cons, List.length_nil] at *; omega)) rfl fun u1 w3 AA => ?_))
   have O1 : OwB w3 u1 (b ++ JV.tNull) := AA.own.same (by simp) (by simp [cells_b8, B8])
   refine sc (oC ent170 rfl) (c_long9 _ (b ++ JV.tNull) _ O1) rfl fun v_ w4 h_ => ?_
   obtain ⟨u2, rfl, hu2, E_⟩ := h_
   exact tW 4 rfl (Ln (e_K (hK8 _ _ _ _ (cR (eI (by simp) (eT (by simp) (ret2 rfl rfl rfl (WR.applong E AA O1 hu2 E_ hr))))))))
  ·refine Cq fun K9 hK9 => Cr (tW 2 rfl (Ln (e_K (hK9 _ _ _ _ ?_))))
   refine c_if rfl (fun h25 => ?_) (fun h25 => ?_)
   ·refine Cq fun K10 hK10 => Cq fun K11 hK11 => Cr (Sv (oA0 fd25_1 rfl) (Sv (oL sc4 rfl (Bg1.cell rfl)) (Ln (e_K (hK11 _ _ _ _ ?_)))))
    refine c_cond rfl (fun h28 => ?_) (fun h28 => ?_)
    ·have hr : v.wr deep b = lng (b ++ JV.tTrue) := by rw [JV.wr_eq, if_neg hne, if_neg h18, if_pos h25, if_pos h28]
     refine Cq fun K12 hK12 => Cr (Zm rfl (s_append sl74 rfl rfl (O.mod0 E) (Src.str Tryz.underlying9 JV.tTrue) (by decide) (by first | omega | (simp only [List.length_append, List.length_cons, List.length_nil] at *; omega)) (by first | omega | (simp only [List.length_append, List.length_cons, List.length_nil] at *; omega)) rfl fun u1 w5 AA => ?_))
     have O1 : OwB w5 u1 (b ++ JV.tTrue) := AA.own.same (by simp) (by simp [cells_b8, B8])
     refine sc (oC ent170 rfl) (c_long9 _ (b ++ JV.tTrue) _ O1) rfl fun v_ w6 h_ => ?_
     obtain ⟨u2, rfl, hu2, E_⟩ := h_
     exact tW 4 rfl (Ln (e_K (hK12 _ _ _ _ (cR (eT (by simp) (eI (by simp) (eT (by simp) (ret2 rfl rfl rfl (WR.applong E AA O1 hu2 E_ hr)))))))))
    ·have hr : v.wr deep b = lng (b ++ JV.tFalse) := by rw [JV.wr_eq, if_neg hne, if_neg h18, if_pos h25, if_neg (by rw [h28]; decide)]
     refine cK (e_K (hK10 _ _ _ _ (Cq fun K13 hK13 => Cr (Zm rfl (s_append sl74 rfl rfl (O.mod0 E) (Src.str Tryz.underlying9 JV.tFalse) (by decide) (by first | omega | (simp only [List.length_append, List.length_cons, List.length_nil] at *; omega)) (by first | omega | (simp only [List.length_append, List.length_cons, List.length_nil] at *; omega)) rfl fun u1 w7 AA => ?_)))))
     have O1 : OwB w7 u1 (b ++ JV.tFalse) := AA.own.same (by simp) (by simp [cells_b8, B8])
     refine sc (oC ent170 rfl) (c_long9 _ (b ++ JV.tFalse) _ O1) rfl fun v_ w8 h_ => ?_
     obtain ⟨u2, rfl, hu2, E_⟩ := h_
     exact tW 4 rfl (Ln (e_K (hK13 _ _ _ _ (cR (eI (by simp) (eT (by simp) (ret2 rfl rfl rfl (WR.applong E AA O1 hu2 E_ hr))))))))
   ·refine Cq fun K14 hK14 => Cr (tW 2 rfl (Ln (e_K (hK14 _ _ _ _ ?_))))
    refine c_if rfl (fun h39 => ?_) (fun h39 => ?_)
    ·have hr : v.wr deep b = lng (b ++ Lib.itoa v.num) := by rw [JV.wr_eq, if_neg hne, if_neg h18, if_neg h25, if_pos h39]
     refine Cq fun K15 hK15 => Cr (Zm rfl (Sv (oA0 fd25_2 rfl) (Sv (oL sc3 rfl (Bg1.cell rfl)) ?_)))
     obtain ⟨hn0, hn1⟩ := bare_num hbare h39
     have hil := Lib.itoa_length_le v.num (by omega) (by omega)
     refine sc (oC ent109 rfl) (c_itoa _ v.num (by omega) (by omega) (hT.mod E (by simp))) rfl fun v_ w9 h_ => ?_
     obtain ⟨rfl, E_⟩ := h_
     replace Bg1 := Bg1.mod0 E_
     replace E := E.then E_
     refine s_append sl74 rfl rfl (O.mod0 E) (Src.str Tryz.underlying9 (Lib.itoa v.num)) (by decide) (by first | omega | (simp only [List.length_append, List.length_cons, List.length_nil] at *; omega)) (by first | omega | (simp only [List.length_append, List.length_cons, List.length_nil] at *; omega)) rfl fun u1 w10 AA => ?_
     have O1 : OwB w10 u1 (b ++ Lib.itoa v.num) := AA.own.same (by simp) (by simp [cells_b8, B8])
     refine sc (oC ent170 rfl) (c_long9 _ (b ++ Lib.itoa v.num) _ O1) rfl fun v_ w11 h_ => ?_
     obtain ⟨u2, rfl, hu2, E_⟩ := h_
     exact tW 4 rfl (Ln (e_K (hK15 _ _ _ _ (cR (eI (by simp) (eT (by simp) (ret2 rfl rfl rfl (WR.applong E AA O1 hu2 E_ hr))))))))
    ·refine Cq fun K16 hK16 => Cr (tW 2 rfl (Ln (e_K (hK16 _ _ _ _ ?_))))
     refine c_if rfl (fun h49 => ?_) (fun h49 => ?_)
     ·have hr : v.wr deep b = txtW b v.str := by rw [JV.wr_eq, if_neg hne, if_neg h18, if_neg h25, if_neg h39, if_pos h49]
      refine Cq fun K17 hK17 => Cr (Zm rfl (Sv (oA0 fd25_3 rfl) (Sv (oL sc9 rfl (Bg1.cell rfl)) (sc (oC ent171 rfl) (c_text9 _ b v.str _ (O.mod0 E) hb) rfl fun v_ w12 h_ => ?_))))
      obtain ⟨u6, rfl, hO6, hob6, hm6, hl6⟩ := h_
      exact tW 4 rfl (Ln (e_K (hK17 _ _ _ _ (cR (eI (by simp) (eT (by simp) (ret2 rfl rfl rfl (WR.from_ E ⟨u6, rfl, hO6, hob6, hm6, hl6⟩ hr))))))))
     ·refine cK (eI (by simp) (e_K (hK5 _ _ _ _ (Cq fun K18 hK18 => Cq fun K19 hK19 => Cr (tW 2 rfl (Ln (e_K (hK19 _ _ _ _ ?_))))))))
      refine c_if rfl (fun h58 => ?_) (fun h58 => ?_)
      ·have hr : v.wr deep b = .error 5 := by rw [JV.wr_eq, if_neg hne, if_neg h18, if_neg h25, if_neg h39, if_neg h49, if_pos (by omega)]
       exact Cq fun K20 hK20 => Cr (tW 2 rfl (Ln (e_K (hK20 _ _ _ _ (cR (eT (by simp) (ret2 rfl rfl rfl (WR.err E (by decide) hr))))))))
      ·refine cK (e_K (hK18 _ _ _ _ (Cq fun K21 hK21 => Cq fun K22 hK22 => Cr (Sv (oA0 fd25_0 rfl) (Sv (oL sc3 rfl (Bg1.cell rfl)) (Sv (oE rfl rfl) (Ln (e_K (hK22 _ _ _ _ ?_)))))))))
       refine c_if rfl (fun h61 => ?_) (fun h61 => ?_)
       ·have hr : v.wr deep b = ((lng (b ++ [91])).bind fun b => JV.wrl v.list deep true b).bind fun b => lng (b ++ [93]) := by rw [JV.wr_eq, if_neg hne, if_neg h18, if_neg h25, if_neg h39, if_neg h49, if_neg (by omega), if_pos h61]; cases lng (b ++ [91]) <;> rfl
        refine Cq fun K23 hK23 => Cr (Zm rfl (s_bslice (cs := [_]) sl74 zv5 rfl rfl rfl (by decide) rfl fun g2 w13 N2 => ?_))
        have Lg2_E := N2.le E
        have Dg1_g2 := N2.ne Bg1
        replace Bg1 := Bg1.mod0 N2.mod
        replace E := E.then N2.mod
        have Bg2 := N2.blk
        have H0 := WS.init E O hb Bg1 Lg1_E Rl Rm
        refine s_append sl74 rfl rfl H0.own (Src.own Tryz.underlying74 (Own.all (c := 1) (cs := [_]) Bg2 rfl (by omega)) (by simp [Value.oneCell', B8])) (by decide) (by omega) (by omega) rfl fun u1 w14 AA => ?_
        have O1 : OwB w14 u1 (b ++ [91]) := AA.own.same (by simp) (by simp [cells_b8, B8])
        refine sc (oC ent170 rfl) (c_long9 _ (b ++ [91]) _ O1) rfl fun v_ w15 h_ => ?_
        obtain ⟨u2, rfl, hu2, E_⟩ := h_
        have H := H0.applong AA O1 hu2 E_
        refine tW 5 rfl (Ln (e_K (hK23 _ _ _ _ (Cq fun K24 hK24 => Cq fun K25 hK25 => Cr (Za rfl (Ln (e_K (hK25 _ _ _ _ (cB (c_loop (σ := Nat × Value × Str × Except Int Str) (fun ⟨k, u, bb, r⟩ => [(2, .int .i64 (deep : Int)), (4, .pointer (some ⟨g1, 0, none⟩)), (8, u), (9, .int .i64 (ern r)), (10, .int .i64 (k : Int))]) (fun ⟨k, u, bb, r⟩ w1 => k ≤ v.list.length ∧ (r.bind fun b => JV.wrl (v.list.drop k) deep (decide (k = 0)) b) = ((lng (b ++ [91])).bind fun b => JV.wrl v.list deep true b) ∧ (∀ b, r = .ok b → b = bb) ∧ WS w w1 u0 g1 25 [.int .i64 v.kind, .bool v.is, .int .i64 v.num, S v.str, .slice al v.list.length cl, .slice am v.map.length cm] v al am cl cm u bb) (fun ⟨k, u, bb, r⟩ => v.list.length - k) (⟨0, u2, bts (lng (b ++ [91])), lng (b ++ [91])⟩) ⟨rfl, rfl, rfl, rfl, rfl, trivial⟩ (⟨by omega, rfl, fun b_ h_ => by rw [h_]; rfl, H⟩) ?_))))))))))
        rintro ⟨k, u, bb, r⟩ w16 ⟨hk, hinv, hrb, H⟩
        refine Cq fun K26 hK26 => Cq fun K27 hK27 => Cr (Zm rfl (Sv (oA0 fd25_4 rfl) (Sv (oL sc22 rfl (H.blk.cell rfl)) (Sv (o_len Tryz.underlying22 rfl) (Sv (o_lss rfl rfl) ?_)))))
        refine bD (fun hs19_0 : (k : Int) < (v.list.length : Int) => ?_) (fun hs19_0 => ?_)
        ·refine tW 4 rfl (Ln (e_K (hK27 _ _ _ _ ?_)))
         refine c_if rfl (fun h77 => ?_) (fun h77 => ?_)
         ·obtain ⟨b1, rfl⟩ := ern_ok h77
          obtain rfl := hrb b1 rfl
          obtain ⟨x, hx_x⟩ : ∃ x, v.list[k]? = some x := ⟨_, List.getElem?_eq_getElem (by omega)⟩
          have hcp := JV.cap_l H.rl
          refine cK (e_K (hK26 _ _ _ _ (Cq fun K28 hK28 => cB (Cq fun K29 hK29 => Cq fun K30 hK30 => Cr (tW 2 rfl (Ln (e_K (hK30 _ _ _ _ ?_))))))))
          refine c_if rfl (fun h81 => ?_) (fun h81 => ?_)
          ·have hinv2 := wrl_step hx_x hinv (r1 := lng (b1 ++ [44])) (by rw [if_neg (by simp; omega)])
           refine Cr (Zm rfl (s_bslice (cs := [_]) sl74 zv5 rfl rfl rfl (by decide) rfl fun g3 w17 N3 => ?_))
           have Dg1_g3 := N3.ne H.blk
           replace H := H.mod0 N3.mod
           have Bg3 := N3.blk
           have hHl := H.len
           refine s_append sl74 rfl rfl H.own (Src.own Tryz.underlying74 (Own.all (c := 1) (cs := [_]) Bg3 rfl (by omega)) (by simp [Value.oneCell', B8])) (by decide) (by omega) (by omega) rfl fun u1 w18 AA => ?_
           have O1 : OwB w18 u1 (b1 ++ [44]) := AA.own.same (by simp) (by simp [cells_b8, B8])
           refine sc (oC ent170 rfl) (c_long9 _ (b1 ++ [44]) _ O1) rfl fun v_ w19 h_ => ?_
           obtain ⟨u2, rfl, hu2, E_⟩ := h_
           replace H := H.applong AA O1 hu2 E_
           clear AA O1 hu2
           refine tW 5 rfl (Ln (e_K (hK29 _ _ _ _ (Cq fun K31 hK31 => Cr (tW 2 rfl (Ln (e_K (hK31 _ _ _ _ ?_))))))))
           refine c_if rfl (fun h90 => ?_) (fun h90 => ?_)
           ·obtain ⟨b2, hb2⟩ := ern_ok h90
            rw [hb2] at H hinv2
            replace H := H.ok
            refine Cr ?_
            obtain ⟨a_x, us_x, ha_x, R_x, hcs_x⟩ := JV.at_l H.rl hx_x
            obtain ⟨al_x, cl_x, am_x, cm_x, rfl, Rl_x, Rm_x⟩ := JV.cells_ R_x
            have hcap_x := JV.cap_l H.rl
            
            cases ha_x
            refine Zm rfl (Sv (oA0 fd25_4 rfl) (Sv (oL sc22 rfl (H.blk.cell rfl)) (Zm rfl (Sv (o_ix sl22 rfl rfl (by omega)) (Sv (o_lda ag25 rfl rfl hcs_x) (Zm rfl (Sv (o_addE (r := ((deep + 1 : Nat) : Int)) rfl rfl (by rw [wrap64_in _ (by omega)]; omega)) (sc (oC ent124 rfl) (ih _ x _ (deep + 1) b2 _ (by have := JV.sz_in_list (List.mem_of_getElem? hx_x); omega) H.own H.len R_x (by omega) (hT.mod H.mod hgt) (fun h => (H.hob _ h).elim hgt (fun h => by have := hT.lt; omega))) rfl fun v_ w20 h_ => ?_))))))))
            obtain ⟨u5, rfl, hO5, hob5, hm5, hl5⟩ := h_
            replace H := H.step hm5 hO5 hob5 hl5
            exact tW 5 rfl (Ln (eI (by simp) (e_K (hK28 _ _ _ _ (Cr (Zm rfl (Sv (o_addN rfl rfl (by omega)) (Za rfl (Ln (eR (σ := Nat × Value × Str × Except Int Str) (s := ⟨k, u, b1, Except.ok b1⟩) (⟨k + 1, u5, (bts (JV.wr x (deep + 1) b2)), (JV.wr x (deep + 1) b2)⟩) ⟨rfl, rfl, rfl, rfl, rfl, trivial⟩ ⟨by omega, hinv2, (fun b_ h_ => by rw [h_]; rfl), H⟩ (by dsimp only; omega)))))))))))
           ·skip
            exact cK (eI (by simp) (e_K (hK28 _ _ _ _ (Cr (Zm rfl (Sv (o_addN rfl rfl (by omega)) (Za rfl (Ln (eR (σ := Nat × Value × Str × Except Int Str) (s := ⟨k, u, b1, Except.ok b1⟩) (⟨k + 1, u2, (bts (lng (b1 ++ [44]))), (lng (b1 ++ [44]))⟩) ⟨rfl, rfl, rfl, rfl, rfl, trivial⟩ ⟨by omega, (by have := hinv2; obtain ⟨e_, he_⟩ := ern_no h90; rw [he_] at this ⊢; exact this), (fun b_ h_ => by rw [h_]; rfl), H⟩ (by dsimp only; omega))))))))))
          ·have hinv2 := wrl_step hx_x hinv (r1 := Except.ok b1) (by rw [if_pos (by simp; omega)])
           refine cK (e_K (hK29 _ _ _ _ (Cq fun K32 hK32 => Cr (tW 2 rfl (Ln (e_K (hK32 _ _ _ _ ?_)))))))
           refine c_if rfl (fun h90 => ?_) (fun h90 => ?_)
           ·obtain ⟨b2, hb2⟩ : ∃ b2, b2 = b1 := ⟨_, rfl⟩
            rw [← hb2] at H hinv2
            refine Cr ?_
            obtain ⟨a_x, us_x, ha_x, R_x, hcs_x⟩ := JV.at_l H.rl hx_x
            obtain ⟨al_x, cl_x, am_x, cm_x, rfl, Rl_x, Rm_x⟩ := JV.cells_ R_x
            have hcap_x := JV.cap_l H.rl
            
            cases ha_x
            refine Zm rfl (Sv (oA0 fd25_4 rfl) (Sv (oL sc22 rfl (H.blk.cell rfl)) (Zm rfl (Sv (o_ix sl22 rfl rfl (by omega)) (Sv (o_lda ag25 rfl rfl hcs_x) (Zm rfl (Sv (o_addE (r := ((deep + 1 : Nat) : Int)) rfl rfl (by rw [wrap64_in _ (by omega)]; omega)) (sc (oC ent124 rfl) (ih _ x _ (deep + 1) b2 _ (by have := JV.sz_in_list (List.mem_of_getElem? hx_x); omega) H.own H.len R_x (by omega) (hT.mod H.mod hgt) (fun h => (H.hob _ h).elim hgt (fun h => by have := hT.lt; omega))) rfl fun v_ w21 h_ => ?_))))))))
            obtain ⟨u5, rfl, hO5, hob5, hm5, hl5⟩ := h_
            replace H := H.step hm5 hO5 hob5 hl5
            exact tW 5 rfl (Ln (eI (by simp) (e_K (hK28 _ _ _ _ (Cr (Zm rfl (Sv (o_addN rfl rfl (by omega)) (Za rfl (Ln (eR (σ := Nat × Value × Str × Except Int Str) (s := ⟨k, u, b1, Except.ok b1⟩) (⟨k + 1, u5, (bts (JV.wr x (deep + 1) b2)), (JV.wr x (deep + 1) b2)⟩) ⟨rfl, rfl, rfl, rfl, rfl, trivial⟩ ⟨by omega, hinv2, (fun b_ h_ => by rw [h_]; rfl), H⟩ (by dsimp only; omega)))))))))))
           ·exact absurd rfl h90
         ·have hW : r = ((lng (b ++ [91])).bind fun b => JV.wrl v.list deep true b) := by rw [← hinv, bind_no h77]
          refine c_exit (eT (by simp) (eT (by simp) (e_hit (e_K (hK24 _ _ _ _ (Cq fun K33 hK33 => Cq fun K34 hK34 => Cr (tW 2 rfl (Ln (e_K (hK34 _ _ _ _ ?_))))))))))
          refine c_if rfl (fun h104 => ?_) (fun h104 => ?_)
          ·have hrr : v.wr deep b = r := by rw [hr, ← hW, bind_no h104]
           exact Cq fun K35 hK35 => Cr (tW 3 rfl (Ln (e_K (hK35 _ _ _ _ (cR (eT (by simp) (eT (by simp) (ret2 rfl rfl rfl (by rw [hrr]; exact H.err h104)))))))))
          ·obtain ⟨b3, rfl⟩ := ern_ok (Classical.byContradiction h104)
           obtain rfl := hrb b3 rfl
           have hrr : v.wr deep b = lng (b3 ++ [93]) := by rw [hr, ← hW]; rfl
           refine cK (e_K (hK33 _ _ _ _ (Cq fun K36 hK36 => Cr (Zm rfl (s_bslice (cs := [_]) sl74 zv5 rfl rfl rfl (by decide) rfl fun g4 w22 N4 => ?_)))))
           have Dg1_g4 := N4.ne H.blk
           replace H := H.mod0 N4.mod
           have Bg4 := N4.blk
           have hHl := H.len
           refine s_append sl74 rfl rfl H.own (Src.own Tryz.underlying74 (Own.all (c := 1) (cs := [_]) Bg4 rfl (by omega)) (by simp [Value.oneCell', B8])) (by decide) (by omega) (by omega) rfl fun u1 w23 AA => ?_
           have O1 : OwB w23 u1 (b3 ++ [93]) := AA.own.same (by simp) (by simp [cells_b8, B8])
           refine sc (oC ent170 rfl) (c_long9 _ (b3 ++ [93]) _ O1) rfl fun v_ w24 h_ => ?_
           obtain ⟨u2, rfl, hu2, E_⟩ := h_
           exact tW 4 rfl (Ln (e_K (hK36 _ _ _ _ (cR (eT (by simp) (ret2 rfl rfl rfl (H.fin AA O1 hu2 E_ hrr)))))))
        ·refine tW 4 rfl (Ln (e_K (hK27 _ _ _ _ (c_false rfl ?_))))
         have hW : r = ((lng (b ++ [91])).bind fun b => JV.wrl v.list deep true b) := by rw [← hinv]; simp only [wrl_end (l := v.list) (k := k) (by omega), bind_self]
         refine c_exit (eT (by simp) (eT (by simp) (e_hit (e_K (hK24 _ _ _ _ (Cq fun K37 hK37 => Cq fun K38 hK38 => Cr (tW 2 rfl (Ln (e_K (hK38 _ _ _ _ ?_))))))))))
         refine c_if rfl (fun h104 => ?_) (fun h104 => ?_)
         ·have hrr : v.wr deep b = r := by rw [hr, ← hW, bind_no h104]
          exact Cq fun K39 hK39 => Cr (tW 3 rfl (Ln (e_K (hK39 _ _ _ _ (cR (eT (by simp) (eT (by simp) (ret2 rfl rfl rfl (by rw [hrr]; exact H.err h104)))))))))
         ·obtain ⟨b3, rfl⟩ := ern_ok (Classical.byContradiction h104)
          obtain rfl := hrb b3 rfl
          have hrr : v.wr deep b = lng (b3 ++ [93]) := by rw [hr, ← hW]; rfl
          refine cK (e_K (hK37 _ _ _ _ (Cq fun K40 hK40 => Cr (Zm rfl (s_bslice (cs := [_]) sl74 zv5 rfl rfl rfl (by decide) rfl fun g5 w25 N5 => ?_)))))
          have Dg1_g5 := N5.ne H.blk
          replace H := H.mod0 N5.mod
          have Bg5 := N5.blk
          have hHl := H.len
          refine s_append sl74 rfl rfl H.own (Src.own Tryz.underlying74 (Own.all (c := 1) (cs := [_]) Bg5 rfl (by omega)) (by simp [Value.oneCell', B8])) (by decide) (by omega) (by omega) rfl fun u1 w26 AA => ?_
          have O1 : OwB w26 u1 (b3 ++ [93]) := AA.own.same (by simp) (by simp [cells_b8, B8])
          refine sc (oC ent170 rfl) (c_long9 _ (b3 ++ [93]) _ O1) rfl fun v_ w27 h_ => ?_
          obtain ⟨u2, rfl, hu2, E_⟩ := h_
          exact tW 4 rfl (Ln (e_K (hK40 _ _ _ _ (cR (eT (by simp) (ret2 rfl rfl rfl (H.fin AA O1 hu2 E_ hrr)))))))
       ·have hr : v.wr deep b = ((lng (b ++ [123])).bind fun b => JV.wrm v.map deep none b).bind fun b => lng (b ++ [125]) := by rw [JV.wr_eq, if_neg hne, if_neg h18, if_neg h25, if_neg h39, if_neg h49, if_neg (by omega), if_neg h61]; cases lng (b ++ [123]) <;> rfl
        refine cK (e_K (hK21 _ _ _ _ (Cq fun K41 hK41 => Cr (Zm rfl (s_bslice (cs := [_]) sl74 zv5 rfl rfl rfl (by decide) rfl fun g6 w28 N6 => ?_)))))
        have Lg6_E := N6.le E
        have Dg1_g6 := N6.ne Bg1
        replace Bg1 := Bg1.mod0 N6.mod
        replace E := E.then N6.mod
        have Bg6 := N6.blk
        have H0 := WS.init E O hb Bg1 Lg1_E Rl Rm
        refine s_append sl74 rfl rfl H0.own (Src.own Tryz.underlying74 (Own.all (c := 1) (cs := [_]) Bg6 rfl (by omega)) (by simp [Value.oneCell', B8])) (by decide) (by omega) (by omega) rfl fun u1 w29 AA => ?_
        have O1 : OwB w29 u1 (b ++ [123]) := AA.own.same (by simp) (by simp [cells_b8, B8])
        refine sc (oC ent170 rfl) (c_long9 _ (b ++ [123]) _ O1) rfl fun v_ w30 h_ => ?_
        obtain ⟨u2, rfl, hu2, E_⟩ := h_
        have H := H0.applong AA O1 hu2 E_
        refine tW 5 rfl (Ln (e_K (hK41 _ _ _ _ (Cq fun K42 hK42 => Cq fun K43 hK43 => Cr (Za rfl (Ln (e_K (hK43 _ _ _ _ (cB (c_loop (σ := Nat × Value × Str × Except Int Str) (fun ⟨k, u, bb, r⟩ => [(0, u), (2, .int .i64 (deep : Int)), (4, .pointer (some ⟨g1, 0, none⟩)), (11, .int .i64 (ern r)), (12, .int .i64 (k : Int))]) (fun ⟨k, u, bb, r⟩ w1 => k ≤ v.map.length ∧ (r.bind fun b => JV.wrm (v.map.drop k) deep (prevK v.map k) b) = ((lng (b ++ [123])).bind fun b => JV.wrm v.map deep none b) ∧ (∀ b, r = .ok b → b = bb) ∧ WS w w1 u0 g1 25 [.int .i64 v.kind, .bool v.is, .int .i64 v.num, S v.str, .slice al v.list.length cl, .slice am v.map.length cm] v al am cl cm u bb) (fun ⟨k, u, bb, r⟩ => v.map.length - k) (⟨0, u2, bts (lng (b ++ [123])), lng (b ++ [123])⟩) ⟨rfl, rfl, rfl, rfl, rfl, trivial⟩ (⟨by omega, rfl, fun b_ h_ => by rw [h_]; rfl, H⟩) ?_))))))))))
        rintro ⟨k, u, bb, r⟩ w31 ⟨hk, hinv, hrb, H⟩
        refine Cq fun K44 hK44 => Cq fun K45 hK45 => Cr (Zm rfl (Sv (oA0 fd25_5 rfl) (Sv (oL sc23 rfl (H.blk.cell rfl)) (Sv (o_len Tryz.underlying23 rfl) (Sv (o_lss rfl rfl) ?_)))))
        refine bD (fun hs30_0 : (k : Int) < (v.map.length : Int) => ?_) (fun hs30_0 => ?_)
        ·refine tW 4 rfl (Ln (e_K (hK45 _ _ _ _ ?_)))
         refine c_if rfl (fun h127 => ?_) (fun h127 => ?_)
         ·obtain ⟨b1, rfl⟩ := ern_ok h127
          obtain rfl := hrb b1 rfl
          obtain ⟨x, hx_x⟩ : ∃ x, v.map[k]? = some x := ⟨_, List.getElem?_eq_getElem (by omega)⟩
          have hcp := JV.cap_m H.rm
          refine cK (e_K (hK44 _ _ _ _ (Cq fun K46 hK46 => cB (Cq fun K47 hK47 => Cq fun K48 hK48 => Cr (tW 2 rfl (Ln (e_K (hK48 _ _ _ _ ?_))))))))
          refine c_if rfl (fun h131 => ?_) (fun h131 => ?_)
          ·obtain ⟨q, hx_q⟩ : ∃ q, v.map[k - 1]? = some q := ⟨_, List.getElem?_eq_getElem (by omega)⟩
           have hinv2 := wrm_step hx_x hx_q (by omega) hinv
           refine Cq fun K49 hK49 => Cr (Zm rfl (s_bslice (cs := [_]) sl74 zv5 rfl rfl rfl (by decide) rfl fun g7 w32 N7 => ?_))
           have Dg1_g7 := N7.ne H.blk
           replace H := H.mod0 N7.mod
           have Bg7 := N7.blk
           have hHl := H.len
           refine s_append sl74 rfl rfl H.own (Src.own Tryz.underlying74 (Own.all (c := 1) (cs := [_]) Bg7 rfl (by omega)) (by simp [Value.oneCell', B8])) (by decide) (by omega) (by omega) rfl fun u1 w33 AA => ?_
           have O1 : OwB w33 u1 (b1 ++ [44]) := AA.own.same (by simp) (by simp [cells_b8, B8])
           refine sc (oC ent170 rfl) (c_long9 _ (b1 ++ [44]) _ O1) rfl fun v_ w34 h_ => ?_
           obtain ⟨u2, rfl, hu2, E_⟩ := h_
           replace H := H.applong AA O1 hu2 E_
           clear AA O1 hu2
           refine tW 5 rfl (Ln (e_K (hK49 _ _ _ _ (Cq fun K50 hK50 => ?_))))
           by_cases hs34_0 : ern (lng (b1 ++ [44])) = 0
           ·obtain ⟨a_x, us_x, ha_x, R_x, hcs_x⟩ := JV.at_m H.rm hx_x
            obtain ⟨al_x, cl_x, am_x, cm_x, rfl, Rl_x, Rm_x⟩ := JV.cells_ R_x
            have hcap_x := JV.cap_m H.rm
            
            obtain ⟨a_q, us_q, ha_q, R_q, hcs_q⟩ := JV.at_m H.rm hx_q
            obtain ⟨al_q, cl_q, am_q, cm_q, rfl, Rl_q, Rm_q⟩ := JV.cells_ R_q
            have hcap_q := JV.cap_m H.rm
            
            cases ha_x
            cases ha_q
            by_cases hs34_1 : (bl x.1 q.1 || x.1 == q.1) = true
            ·refine c_draw wide (by kernel_rfl) (tU 3 rfl rfl (tvg rfl (dT hs34_0) (fun w_ E_ => (oA0 fd25_5 rfl)) rfl rfl (tvg rfl (dT hs34_0) (fun w_ E_ => (oL sc23 rfl ((H.blk.mod0 E_).cell rfl))) rfl rfl (tvg rfl (dT hs34_0) (fun w_ E_ => (oM rfl)) rfl rfl (tvg rfl (dT hs34_0) (fun w_ E_ => (o_ix sl23 rfl rfl (by omega))) rfl rfl (tvg rfl (dT hs34_0) (fun w_ E_ => (o_fad fd44_0 rfl)) rfl rfl (tvg rfl (dT hs34_0) (fun w_ E_ => (oL sc9 rfl ((hcs_x.mod0 E_) 0 _ rfl))) rfl rfl (tvg rfl (dT hs34_0) (fun w_ E_ => (oA0 fd25_5 rfl)) rfl rfl (tvg rfl (dT hs34_0) (fun w_ E_ => (oL sc23 rfl ((H.blk.mod0 E_).cell rfl))) rfl rfl (tvg rfl (dT hs34_0) (fun w_ E_ => (oM rfl)) rfl rfl (tvg rfl (dT hs34_0) (fun w_ E_ => (o_subE (r := ((k - 1 : Nat) : Int)) rfl rfl (by rw [wrap64_in _ (by omega)]; omega))) rfl rfl (tvg rfl (dT hs34_0) (fun w_ E_ => (o_ix sl23 rfl rfl (by omega))) rfl rfl (tvg rfl (dT hs34_0) (fun w_ E_ => (o_fad fd44_0 rfl)) rfl rfl ?_)))))))))))))
             refine tvg rfl (dT hs34_0) (fun w_ E_ => (oL sc9 rfl ((hcs_q.mod0 E_) 0 _ rfl))) rfl rfl (tvg rfl (dT hs34_0) (fun w_ E_ => (o_sle rfl rfl)) rfl rfl (tv (fun w_ E_ => (oT (dT hs34_0) rfl rfl)) rfl rfl (tw_nil rfl fun w35 E_ => ?_)))
             replace H := H.mod0 E_
             refine e_K (hK50 _ _ _ _ ?_)
             refine c_cond rfl (fun h156 => ?_) (fun h156 => absurd (hs34_1.symm.trans h156) (by decide))
             obtain ⟨b2, hb2⟩ := ern_ok hs34_0
             have hinv3 : (Except.error 1 : Except Int Str) = ((lng (b ++ [123])).bind fun b => JV.wrm v.map deep none b) := by
              have h_ := hinv2
              rw [hb2] at h_
              simp only [Except.bind, bl_le hs34_1] at h_ ⊢
              exact h_
             refine Cr (Za rfl (Ln (e_K (hK47 _ _ _ _ (Cq fun K51 hK51 => Cq fun K52 hK52 => Cr (tW 2 rfl (Ln (e_K (hK52 _ _ _ _ ?_)))))))))
             refine c_if rfl (fun h158 => ?_) (fun h158 => ?_)
             ·exact absurd h158 (by decide)
             ·skip
              refine cK (e_K (hK51 _ _ _ _ (Cq fun K53 hK53 => Cq fun K54 hK54 => Cr (tW 2 rfl (Ln (e_K (hK54 _ _ _ _ ?_)))))))
              refine c_if rfl (fun h171 => ?_) (fun h171 => ?_)
              ·exact absurd h171 (by decide)
              ·skip
               refine cK (e_K (hK53 _ _ _ _ (Cq fun K55 hK55 => Cr (tW 2 rfl (Ln (e_K (hK55 _ _ _ _ ?_)))))))
               refine c_if rfl (fun h180 => ?_) (fun h180 => ?_)
               ·exact absurd h180 (by decide)
               ·skip
                exact cK (eI (by simp) (e_K (hK46 _ _ _ _ (Cr (Zm rfl (Sv (o_addN rfl rfl (by omega)) (Za rfl (Ln (eR (σ := Nat × Value × Str × Except Int Str) (s := ⟨k, u, b1, Except.ok b1⟩) (⟨k + 1, u2, (bts (lng (b1 ++ [44]))), (Except.error 1)⟩) ⟨rfl, rfl, rfl, rfl, rfl, trivial⟩ ⟨by omega, hinv3, (fun b_ h_ => by cases h_), H⟩ (by dsimp only; omega))))))))))
            ·have hq_x := le_bl hs34_1
             refine c_draw wide (by kernel_rfl) (tU 3 rfl rfl (tvg rfl (dT hs34_0) (fun w_ E_ => (oA0 fd25_5 rfl)) rfl rfl (tvg rfl (dT hs34_0) (fun w_ E_ => (oL sc23 rfl ((H.blk.mod0 E_).cell rfl))) rfl rfl (tvg rfl (dT hs34_0) (fun w_ E_ => (oM rfl)) rfl rfl (tvg rfl (dT hs34_0) (fun w_ E_ => (o_ix sl23 rfl rfl (by omega))) rfl rfl (tvg rfl (dT hs34_0) (fun w_ E_ => (o_fad fd44_0 rfl)) rfl rfl (tvg rfl (dT hs34_0) (fun w_ E_ => (oL sc9 rfl ((hcs_x.mod0 E_) 0 _ rfl))) rfl rfl (tvg rfl (dT hs34_0) (fun w_ E_ => (oA0 fd25_5 rfl)) rfl rfl (tvg rfl (dT hs34_0) (fun w_ E_ => (oL sc23 rfl ((H.blk.mod0 E_).cell rfl))) rfl rfl (tvg rfl (dT hs34_0) (fun w_ E_ => (oM rfl)) rfl rfl (tvg rfl (dT hs34_0) (fun w_ E_ => (o_subE (r := ((k - 1 : Nat) : Int)) rfl rfl (by rw [wrap64_in _ (by omega)]; omega))) rfl rfl (tvg rfl (dT hs34_0) (fun w_ E_ => (o_ix sl23 rfl rfl (by omega))) rfl rfl (tvg rfl (dT hs34_0) (fun w_ E_ => (o_fad fd44_0 rfl)) rfl rfl ?_)))))))))))))
             refine tvg rfl (dT hs34_0) (fun w_ E_ => (oL sc9 rfl ((hcs_q.mod0 E_) 0 _ rfl))) rfl rfl (tvg rfl (dT hs34_0) (fun w_ E_ => (o_sle rfl rfl)) rfl rfl (tv (fun w_ E_ => (oT (dT hs34_0) rfl rfl)) rfl rfl (tw_nil rfl fun w36 E_ => ?_)))
             replace H := H.mod0 E_
             refine e_K (hK50 _ _ _ _ (c_cond rfl (fun h156 => absurd ((bF hs34_1).symm.trans h156) (by decide)) (fun h156 => cK (e_K (hK47 _ _ _ _ (Cq fun K56 hK56 => Cq fun K57 hK57 => Cr (tW 2 rfl (Ln (e_K (hK57 _ _ _ _ ?_))))))))))
             refine c_if rfl (fun h158 => ?_) (fun h158 => ?_)
             ·obtain ⟨b2, hb2⟩ := ern_ok h158
              rw [hb2] at H hinv2
              replace H := H.ok
              have hinv2 : ((txtW b2 x.1).bind fun b => (lng (b ++ [58])).bind fun b => (JV.wr x.2 (deep + 1) b).bind fun b => JV.wrm (v.map.drop (k + 1)) deep (prevK v.map (k + 1)) b) = ((lng (b ++ [123])).bind fun b => JV.wrm v.map deep none b) := by
               have h_ := hinv2
               simp only [Except.bind, if_pos hq_x] at h_ ⊢
               exact h_
              refine Cr ?_
              obtain ⟨a_x, us_x, ha_x, R_x, hcs_x⟩ := JV.at_m H.rm hx_x
              obtain ⟨al_x, cl_x, am_x, cm_x, rfl, Rl_x, Rm_x⟩ := JV.cells_ R_x
              have hcap_x := JV.cap_m H.rm
              
              cases ha_x
              refine Zm rfl (Sv (oA0 fd25_5 rfl) (Sv (oL sc23 rfl (H.blk.cell rfl)) (Zm rfl (Sv (o_ix sl23 rfl rfl (by omega)) (Sv (o_fad fd44_0 rfl) (Sv (oL sc9 rfl (hcs_x 0 _ rfl)) (sc (oC ent171 rfl) (c_text9 _ b2 x.1 _ H.own H.len) rfl fun v_ w37 h_ => ?_)))))))
              obtain ⟨u6, rfl, hO6, hob6, hm6, hl6⟩ := h_
              replace H := H.step hm6 hO6 hob6 hl6
              refine tW 5 rfl (Ln (e_K (hK56 _ _ _ _ (Cq fun K58 hK58 => Cq fun K59 hK59 => Cr (tW 2 rfl (Ln (e_K (hK59 _ _ _ _ ?_))))))))
              refine c_if rfl (fun h171 => ?_) (fun h171 => ?_)
              ·obtain ⟨b3, hb3⟩ := ern_ok h171
               rw [hb3] at H hinv2
               replace H := H.ok
               replace hinv2 := okb hinv2
               refine Cr (Zm rfl (s_bslice (cs := [_]) sl74 zv5 rfl rfl rfl (by decide) rfl fun g8 w38 N8 => ?_))
               have Dg1_g8 := N8.ne H.blk
               replace H := H.mod0 N8.mod
               have Bg8 := N8.blk
               have hHl := H.len
               refine s_append sl74 rfl rfl H.own (Src.own Tryz.underlying74 (Own.all (c := 1) (cs := [_]) Bg8 rfl (by omega)) (by simp [Value.oneCell', B8])) (by decide) (by omega) (by omega) rfl fun u1 w39 AA => ?_
               have O1 : OwB w39 u1 (b3 ++ [58]) := AA.own.same (by simp) (by simp [cells_b8, B8])
               refine sc (oC ent170 rfl) (c_long9 _ (b3 ++ [58]) _ O1) rfl fun v_ w40 h_ => ?_
               obtain ⟨u7, rfl, hu2, E_⟩ := h_
               replace H := H.applong AA O1 hu2 E_
               clear AA O1 hu2
               refine tW 5 rfl (Ln (e_K (hK58 _ _ _ _ (Cq fun K60 hK60 => Cr (tW 2 rfl (Ln (e_K (hK60 _ _ _ _ ?_))))))))
               refine c_if rfl (fun h180 => ?_) (fun h180 => ?_)
               ·obtain ⟨b4, hb4⟩ := ern_ok h180
                rw [hb4] at H hinv2
                replace H := H.ok
                replace hinv2 := okb hinv2
                refine Cr ?_
                obtain ⟨a_x, us_x, ha_x, R_x, hcs_x⟩ := JV.at_m H.rm hx_x
                obtain ⟨al_x, cl_x, am_x, cm_x, rfl, Rl_x, Rm_x⟩ := JV.cells_ R_x
                have hcap_x := JV.cap_m H.rm
                
                cases ha_x
                refine Zm rfl (Sv (oA0 fd25_5 rfl) (Sv (oL sc23 rfl (H.blk.cell rfl)) (Zm rfl (Sv (o_ix sl23 rfl rfl (by omega)) (Sv (o_fad fd44_1 rfl) (Sv (o_lda ag25 rfl rfl hcs_x.tail_) (Zm rfl (Sv (o_addE (r := ((deep + 1 : Nat) : Int)) rfl rfl (by rw [wrap64_in _ (by omega)]; omega)) (sc (oC ent124 rfl) (ih _ x.2 _ (deep + 1) b4 _ (by have := JV.sz_in_map (List.mem_of_getElem? hx_x); omega) H.own H.len R_x (by omega) (hT.mod H.mod hgt) (fun h => (H.hob _ h).elim hgt (fun h => by have := hT.lt; omega))) rfl fun v_ w41 h_ => ?_)))))))))
                obtain ⟨u5, rfl, hO5, hob5, hm5, hl5⟩ := h_
                replace H := H.step hm5 hO5 hob5 hl5
                exact tW 5 rfl (Ln (eI (by simp) (e_K (hK46 _ _ _ _ (Cr (Zm rfl (Sv (o_addN rfl rfl (by omega)) (Za rfl (Ln (eR (σ := Nat × Value × Str × Except Int Str) (s := ⟨k, u, b1, Except.ok b1⟩) (⟨k + 1, u5, (bts (JV.wr x.2 (deep + 1) b4)), (JV.wr x.2 (deep + 1) b4)⟩) ⟨rfl, rfl, rfl, rfl, rfl, trivial⟩ ⟨by omega, hinv2, (fun b_ h_ => by rw [h_]; rfl), H⟩ (by dsimp only; omega)))))))))))
               ·skip
                exact cK (eI (by simp) (e_K (hK46 _ _ _ _ (Cr (Zm rfl (Sv (o_addN rfl rfl (by omega)) (Za rfl (Ln (eR (σ := Nat × Value × Str × Except Int Str) (s := ⟨k, u, b1, Except.ok b1⟩) (⟨k + 1, u7, (bts (lng (b3 ++ [58]))), (lng (b3 ++ [58]))⟩) ⟨rfl, rfl, rfl, rfl, rfl, trivial⟩ ⟨by omega, (by have h_ := hinv2; obtain ⟨e_, he_⟩ := ern_no h180; rw [he_] at h_ ⊢; exact h_), (fun b_ h_ => by rw [h_]; rfl), H⟩ (by dsimp only; omega))))))))))
              ·skip
               refine cK (e_K (hK58 _ _ _ _ (Cq fun K61 hK61 => Cr (tW 2 rfl (Ln (e_K (hK61 _ _ _ _ ?_)))))))
               refine c_if rfl (fun h180 => ?_) (fun h180 => ?_)
               ·exact absurd h180 h171
               ·skip
                exact cK (eI (by simp) (e_K (hK46 _ _ _ _ (Cr (Zm rfl (Sv (o_addN rfl rfl (by omega)) (Za rfl (Ln (eR (σ := Nat × Value × Str × Except Int Str) (s := ⟨k, u, b1, Except.ok b1⟩) (⟨k + 1, u6, (bts (txtW b2 x.1)), (txtW b2 x.1)⟩) ⟨rfl, rfl, rfl, rfl, rfl, trivial⟩ ⟨by omega, (by have h_ := hinv2; obtain ⟨e_, he_⟩ := ern_no h171; rw [he_] at h_ ⊢; exact h_), (fun b_ h_ => by rw [h_]; rfl), H⟩ (by dsimp only; omega))))))))))
             ·skip
              refine cK (e_K (hK56 _ _ _ _ (Cq fun K62 hK62 => Cq fun K63 hK63 => Cr (tW 2 rfl (Ln (e_K (hK63 _ _ _ _ ?_)))))))
              refine c_if rfl (fun h171 => ?_) (fun h171 => ?_)
              ·exact absurd h171 h158
              ·skip
               refine cK (e_K (hK62 _ _ _ _ (Cq fun K64 hK64 => Cr (tW 2 rfl (Ln (e_K (hK64 _ _ _ _ ?_)))))))
               refine c_if rfl (fun h180 => ?_) (fun h180 => ?_)
               ·exact absurd h180 h158
               ·skip
                exact cK (eI (by simp) (e_K (hK46 _ _ _ _ (Cr (Zm rfl (Sv (o_addN rfl rfl (by omega)) (Za rfl (Ln (eR (σ := Nat × Value × Str × Except Int Str) (s := ⟨k, u, b1, Except.ok b1⟩) (⟨k + 1, u2, (bts (lng (b1 ++ [44]))), (lng (b1 ++ [44]))⟩) ⟨rfl, rfl, rfl, rfl, rfl, trivial⟩ ⟨by omega, (by have h_ := hinv2; obtain ⟨e_, he_⟩ := ern_no h158; rw [he_] at h_ ⊢; exact h_), (fun b_ h_ => by rw [h_]; rfl), H⟩ (by dsimp only; omega))))))))))
           ·have he34 := hs34_0
            refine c_draw wide (by kernel_rfl) (tU 3 rfl rfl (Tx rfl (dF hs34_0) (Tx rfl (dF hs34_0) (Tx rfl (dF hs34_0) (Tx rfl (dF hs34_0) (Tx rfl (dF hs34_0) (Tx rfl (dF hs34_0) (Tx rfl (dF hs34_0) (Tx rfl (dF hs34_0) (Tx rfl (dF hs34_0) (Tx rfl (dF hs34_0) (Tx rfl (dF hs34_0) (Tx rfl (dF hs34_0) ?_)))))))))))))
            refine Tx rfl (dF hs34_0) (Tx rfl (dF hs34_0) (tv (fun w_ E_ => (oF (dF hs34_0) rfl rfl)) rfl rfl (tw_nil rfl fun w42 E_ => ?_)))
            replace H := H.mod0 E_
            refine e_K (hK50 _ _ _ _ (c_false rfl (cK (e_K (hK47 _ _ _ _ (Cq fun K65 hK65 => Cq fun K66 hK66 => Cr (tW 2 rfl (Ln (e_K (hK66 _ _ _ _ ?_))))))))))
            refine c_if rfl (fun h158 => ?_) (fun h158 => ?_)
            ·exact absurd h158 hs34_0
            ·skip
             refine cK (e_K (hK65 _ _ _ _ (Cq fun K67 hK67 => Cq fun K68 hK68 => Cr (tW 2 rfl (Ln (e_K (hK68 _ _ _ _ ?_)))))))
             refine c_if rfl (fun h171 => ?_) (fun h171 => ?_)
             ·exact absurd h171 hs34_0
             ·skip
              refine cK (e_K (hK67 _ _ _ _ (Cq fun K69 hK69 => Cr (tW 2 rfl (Ln (e_K (hK69 _ _ _ _ ?_)))))))
              refine c_if rfl (fun h180 => ?_) (fun h180 => ?_)
              ·exact absurd h180 hs34_0
              ·skip
               exact cK (eI (by simp) (e_K (hK46 _ _ _ _ (Cr (Zm rfl (Sv (o_addN rfl rfl (by omega)) (Za rfl (Ln (eR (σ := Nat × Value × Str × Except Int Str) (s := ⟨k, u, b1, Except.ok b1⟩) (⟨k + 1, u2, (bts (lng (b1 ++ [44]))), (lng (b1 ++ [44]))⟩) ⟨rfl, rfl, rfl, rfl, rfl, trivial⟩ ⟨by omega, (by have h_ := hinv2; obtain ⟨e_, he_⟩ := ern_no hs34_0; rw [he_] at h_ ⊢; exact h_), (fun b_ h_ => by rw [h_]; rfl), H⟩ (by dsimp only; omega))))))))))
          ·have hinv2 := wrm_step0 hx_x (by omega) hinv
           refine cK (e_K (hK47 _ _ _ _ (Cq fun K70 hK70 => Cq fun K71 hK71 => Cr (tW 2 rfl (Ln (e_K (hK71 _ _ _ _ ?_)))))))
           refine c_if rfl (fun h158 => ?_) (fun h158 => ?_)
           ·obtain ⟨b2, hb2⟩ : ∃ b2, b2 = b1 := ⟨_, rfl⟩
            rw [← hb2] at H hinv2
            refine Cr ?_
            obtain ⟨a_x, us_x, ha_x, R_x, hcs_x⟩ := JV.at_m H.rm hx_x
            obtain ⟨al_x, cl_x, am_x, cm_x, rfl, Rl_x, Rm_x⟩ := JV.cells_ R_x
            have hcap_x := JV.cap_m H.rm
            
            cases ha_x
            refine Zm rfl (Sv (oA0 fd25_5 rfl) (Sv (oL sc23 rfl (H.blk.cell rfl)) (Zm rfl (Sv (o_ix sl23 rfl rfl (by omega)) (Sv (o_fad fd44_0 rfl) (Sv (oL sc9 rfl (hcs_x 0 _ rfl)) (sc (oC ent171 rfl) (c_text9 _ b2 x.1 _ H.own H.len) rfl fun v_ w43 h_ => ?_)))))))
            obtain ⟨u6, rfl, hO6, hob6, hm6, hl6⟩ := h_
            replace H := H.step hm6 hO6 hob6 hl6
            refine tW 5 rfl (Ln (e_K (hK70 _ _ _ _ (Cq fun K72 hK72 => Cq fun K73 hK73 => Cr (tW 2 rfl (Ln (e_K (hK73 _ _ _ _ ?_))))))))
            refine c_if rfl (fun h171 => ?_) (fun h171 => ?_)
            ·obtain ⟨b3, hb3⟩ := ern_ok h171
             rw [hb3] at H hinv2
             replace H := H.ok
             replace hinv2 := okb hinv2
             refine Cr (Zm rfl (s_bslice (cs := [_]) sl74 zv5 rfl rfl rfl (by decide) rfl fun g9 w44 N9 => ?_))
             have Dg1_g9 := N9.ne H.blk
             replace H := H.mod0 N9.mod
             have Bg9 := N9.blk
             have hHl := H.len
             refine s_append sl74 rfl rfl H.own (Src.own Tryz.underlying74 (Own.all (c := 1) (cs := [_]) Bg9 rfl (by omega)) (by simp [Value.oneCell', B8])) (by decide) (by omega) (by omega) rfl fun u1 w45 AA => ?_
             have O1 : OwB w45 u1 (b3 ++ [58]) := AA.own.same (by simp) (by simp [cells_b8, B8])
             refine sc (oC ent170 rfl) (c_long9 _ (b3 ++ [58]) _ O1) rfl fun v_ w46 h_ => ?_
             obtain ⟨u7, rfl, hu2, E_⟩ := h_
             replace H := H.applong AA O1 hu2 E_
             clear AA O1 hu2
             refine tW 5 rfl (Ln (e_K (hK72 _ _ _ _ (Cq fun K74 hK74 => Cr (tW 2 rfl (Ln (e_K (hK74 _ _ _ _ ?_))))))))
             refine c_if rfl (fun h180 => ?_) (fun h180 => ?_)
             ·obtain ⟨b4, hb4⟩ := ern_ok h180
              rw [hb4] at H hinv2
              replace H := H.ok
              replace hinv2 := okb hinv2
              refine Cr ?_
              obtain ⟨a_x, us_x, ha_x, R_x, hcs_x⟩ := JV.at_m H.rm hx_x
              obtain ⟨al_x, cl_x, am_x, cm_x, rfl, Rl_x, Rm_x⟩ := JV.cells_ R_x
              have hcap_x := JV.cap_m H.rm
              
              cases ha_x
              refine Zm rfl (Sv (oA0 fd25_5 rfl) (Sv (oL sc23 rfl (H.blk.cell rfl)) (Zm rfl (Sv (o_ix sl23 rfl rfl (by omega)) (Sv (o_fad fd44_1 rfl) (Sv (o_lda ag25 rfl rfl hcs_x.tail_) (Zm rfl (Sv (o_addE (r := ((deep + 1 : Nat) : Int)) rfl rfl (by rw [wrap64_in _ (by omega)]; omega)) (sc (oC ent124 rfl) (ih _ x.2 _ (deep + 1) b4 _ (by have := JV.sz_in_map (List.mem_of_getElem? hx_x); omega) H.own H.len R_x (by omega) (hT.mod H.mod hgt) (fun h => (H.hob _ h).elim hgt (fun h => by have := hT.lt; omega))) rfl fun v_ w47 h_ => ?_)))))))))
              obtain ⟨u5, rfl, hO5, hob5, hm5, hl5⟩ := h_
              replace H := H.step hm5 hO5 hob5 hl5
              exact tW 5 rfl (Ln (eI (by simp) (e_K (hK46 _ _ _ _ (Cr (Zm rfl (Sv (o_addN rfl rfl (by omega)) (Za rfl (Ln (eR (σ := Nat × Value × Str × Except Int Str) (s := ⟨k, u, b1, Except.ok b1⟩) (⟨k + 1, u5, (bts (JV.wr x.2 (deep + 1) b4)), (JV.wr x.2 (deep + 1) b4)⟩) ⟨rfl, rfl, rfl, rfl, rfl, trivial⟩ ⟨by omega, hinv2, (fun b_ h_ => by rw [h_]; rfl), H⟩ (by dsimp only; omega)))))))))))
             ·skip
              exact cK (eI (by simp) (e_K (hK46 _ _ _ _ (Cr (Zm rfl (Sv (o_addN rfl rfl (by omega)) (Za rfl (Ln (eR (σ := Nat × Value × Str × Except Int Str) (s := ⟨k, u, b1, Except.ok b1⟩) (⟨k + 1, u7, (bts (lng (b3 ++ [58]))), (lng (b3 ++ [58]))⟩) ⟨rfl, rfl, rfl, rfl, rfl, trivial⟩ ⟨by omega, (by have h_ := hinv2; obtain ⟨e_, he_⟩ := ern_no h180; rw [he_] at h_ ⊢; exact h_), (fun b_ h_ => by rw [h_]; rfl), H⟩ (by dsimp only; omega))))))))))
            ·skip
             refine cK (e_K (hK72 _ _ _ _ (Cq fun K75 hK75 => Cr (tW 2 rfl (Ln (e_K (hK75 _ _ _ _ ?_)))))))
             refine c_if rfl (fun h180 => ?_) (fun h180 => ?_)
             ·exact absurd h180 h171
             ·skip
              exact cK (eI (by simp) (e_K (hK46 _ _ _ _ (Cr (Zm rfl (Sv (o_addN rfl rfl (by omega)) (Za rfl (Ln (eR (σ := Nat × Value × Str × Except Int Str) (s := ⟨k, u, b1, Except.ok b1⟩) (⟨k + 1, u6, (bts (txtW b2 x.1)), (txtW b2 x.1)⟩) ⟨rfl, rfl, rfl, rfl, rfl, trivial⟩ ⟨by omega, (by have h_ := hinv2; obtain ⟨e_, he_⟩ := ern_no h171; rw [he_] at h_ ⊢; exact h_), (fun b_ h_ => by rw [h_]; rfl), H⟩ (by dsimp only; omega))))))))))
           ·exact absurd rfl h158
         ·have hW : r = ((lng (b ++ [123])).bind fun b => JV.wrm v.map deep none b) := by rw [← hinv, bind_no h127]
          refine c_exit (eT (by simp) (eT (by simp) (e_hit (e_K (hK42 _ _ _ _ (Cq fun K76 hK76 => Cq fun K77 hK77 => Cr (tW 2 rfl (Ln (e_K (hK77 _ _ _ _ ?_))))))))))
          refine c_if rfl (fun h195 => ?_) (fun h195 => ?_)
          ·have hrr : v.wr deep b = r := by rw [hr, ← hW, bind_no h195]
           exact Cq fun K78 hK78 => Cr (tW 3 rfl (Ln (e_K (hK78 _ _ _ _ (cR (eT (by simp) (ret2 rfl rfl rfl (by rw [hrr]; exact H.err h195))))))))
          ·obtain ⟨b3, rfl⟩ := ern_ok (Classical.byContradiction h195)
           obtain rfl := hrb b3 rfl
           have hrr : v.wr deep b = lng (b3 ++ [125]) := by rw [hr, ← hW]; rfl
           refine cK (e_K (hK76 _ _ _ _ (Cq fun K79 hK79 => Cr (Zm rfl (s_bslice (cs := [_]) sl74 zv5 rfl rfl rfl (by decide) rfl fun g10 w48 N10 => ?_)))))
           have Dg1_g10 := N10.ne H.blk
           replace H := H.mod0 N10.mod
           have Bg10 := N10.blk
           have hHl := H.len
           refine s_append sl74 rfl rfl H.own (Src.own Tryz.underlying74 (Own.all (c := 1) (cs := [_]) Bg10 rfl (by omega)) (by simp [Value.oneCell', B8])) (by decide) (by omega) (by omega) rfl fun u1 w49 AA => ?_
           have O1 : OwB w49 u1 (b3 ++ [125]) := AA.own.same (by simp) (by simp [cells_b8, B8])
           refine sc (oC ent170 rfl) (c_long9 _ (b3 ++ [125]) _ O1) rfl fun v_ w50 h_ => ?_
           obtain ⟨u2, rfl, hu2, E_⟩ := h_
           exact tW 4 rfl (Ln (e_K (hK79 _ _ _ _ (cR (ret2 rfl rfl rfl (H.fin AA O1 hu2 E_ hrr))))))
        ·refine tW 4 rfl (Ln (e_K (hK45 _ _ _ _ (c_false rfl ?_))))
         have hW : r = ((lng (b ++ [123])).bind fun b => JV.wrm v.map deep none b) := by rw [← hinv]; simp only [wrm_end (m := v.map) (k := k) (by omega), bind_self]
         refine c_exit (eT (by simp) (eT (by simp) (e_hit (e_K (hK42 _ _ _ _ (Cq fun K80 hK80 => Cq fun K81 hK81 => Cr (tW 2 rfl (Ln (e_K (hK81 _ _ _ _ ?_))))))))))
         refine c_if rfl (fun h195 => ?_) (fun h195 => ?_)
         ·have hrr : v.wr deep b = r := by rw [hr, ← hW, bind_no h195]
          exact Cq fun K82 hK82 => Cr (tW 3 rfl (Ln (e_K (hK82 _ _ _ _ (cR (eT (by simp) (ret2 rfl rfl rfl (by rw [hrr]; exact H.err h195))))))))
         ·obtain ⟨b3, rfl⟩ := ern_ok (Classical.byContradiction h195)
          obtain rfl := hrb b3 rfl
          have hrr : v.wr deep b = lng (b3 ++ [125]) := by rw [hr, ← hW]; rfl
          refine cK (e_K (hK80 _ _ _ _ (Cq fun K83 hK83 => Cr (Zm rfl (s_bslice (cs := [_]) sl74 zv5 rfl rfl rfl (by decide) rfl fun g11 w51 N11 => ?_)))))
          have Dg1_g11 := N11.ne H.blk
          replace H := H.mod0 N11.mod
          have Bg11 := N11.blk
          have hHl := H.len
          refine s_append sl74 rfl rfl H.own (Src.own Tryz.underlying74 (Own.all (c := 1) (cs := [_]) Bg11 rfl (by omega)) (by simp [Value.oneCell', B8])) (by decide) (by omega) (by omega) rfl fun u1 w52 AA => ?_
          have O1 : OwB w52 u1 (b3 ++ [125]) := AA.own.same (by simp) (by simp [cells_b8, B8])
          refine sc (oC ent170 rfl) (c_long9 _ (b3 ++ [125]) _ O1) rfl fun v_ w53 h_ => ?_
          obtain ⟨u2, rfl, hu2, E_⟩ := h_
          exact tW 4 rfl (Ln (e_K (hK83 _ _ _ _ (cR (ret2 rfl rfl rfl (H.fin AA O1 hu2 E_ hrr))))))
end Go.Proofs.YtknndpjacklkeaaGreatDoor.V

set_option linter.unusedVariables false
set_option linter.unusedSimpArgs false
namespace Go.Proofs.YtknndpjacklkeaaGreatDoor.V
open Go
structure Sig3 where
 srv : Str
 key : Str
 sig : Str
abbrev Sig3.cells (s : Sig3) : List Value := [S s.srv, S s.key, S s.sig]
structure EV where
 room : Str
 snd : Str
 ty : Str
 st : Bool
 key : Str
 con : JV
 prev : List Str
 auth : List Str
 dep : Int
 time : Int
 hash : Str
 sigs : List Sig3
namespace EV
def D (e : EV) : List Go.Proofs.YtknndpjacklkeaaGreatDoor.V.D := [.v (S e.room), .v (S e.snd), .v (S e.ty), .v (.bool e.st), .v (S e.key)] ++ (e.con.D ++ [strD e.prev, strD e.auth, .v (.int .i64 e.dep), .v (.int .i64 e.time), .v (S e.hash), flat 3 Sig3.cells e.sigs])
theorem D_len (e : EV) : e.D.length = 17 := by simp [D, JV.D_len]
theorem cells_ {A : List Nat} {w : World} {e : EV} {us : List Value} (R : Reps A w e.D us) : ∃ cs ap cp aa ca aS cS, us = [S e.room, S e.snd, S e.ty, .bool e.st, S e.key] ++ (cs ++ [.slice ap e.prev.length cp, .slice aa e.auth.length ca, .int .i64 e.dep, .int .i64 e.time, S e.hash, .slice aS e.sigs.length cS]) ∧
  Reps A w e.con.D cs ∧ Rep A w (strD e.prev) (.slice ap e.prev.length cp) ∧ Rep A w (strD e.auth) (.slice aa e.auth.length ca) ∧ Rep A w (flat 3 Sig3.cells e.sigs) (.slice aS e.sigs.length cS) := by
 unfold D at R
 obtain ⟨h1, h2⟩ := R.cut
 simp only [List.length_cons, List.length_nil] at h1 h2
 obtain ⟨h3, h4⟩ := h2.cut
 have hus : us = us.take (0 + 1 + 1 + 1 + 1 + 1) ++ ((us.drop (0 + 1 + 1 + 1 + 1 + 1)).take e.con.D.length ++ (us.drop (0 + 1 + 1 + 1 + 1 + 1)).drop e.con.D.length) := by rw [List.take_append_drop, List.take_append_drop]
 obtain ⟨_, _, e1, g1, h1⟩ := h1
 obtain ⟨_, _, rfl, g2, h1⟩ := h1
 obtain ⟨_, _, rfl, g3, h1⟩ := h1
 obtain ⟨_, _, rfl, g4, h1⟩ := h1
 obtain ⟨_, _, rfl, g5, h1⟩ := h1
 obtain rfl := h1
 obtain ⟨_, _, e2, k1, h4⟩ := h4
 obtain ⟨_, _, rfl, k2, h4⟩ := h4
 obtain ⟨_, _, rfl, k3, h4⟩ := h4
 obtain ⟨_, _, rfl, k4, h4⟩ := h4
 obtain ⟨_, _, rfl, k5, h4⟩ := h4
 obtain ⟨_, _, rfl, k6, h4⟩ := h4
 obtain rfl := h4
 obtain rfl := g1.v_eq; obtain rfl := g2.v_eq; obtain rfl := g3.v_eq; obtain rfl := g4.v_eq; obtain rfl := g5.v_eq
 obtain rfl := k3.v_eq; obtain rfl := k4.v_eq; obtain rfl := k5.v_eq
 obtain ⟨ap, cp, rfl, _⟩ := flat_len k1
 obtain ⟨aa, ca, rfl, _⟩ := flat_len k2
 obtain ⟨aS, cS, rfl, _⟩ := flat_len k6
 rw [e1, e2] at hus
 exact ⟨_, ap, cp, aa, ca, aS, cS, hus, h3, k1, k2, k6⟩
theorem cells17 {A : List Nat} {w : World} {e : EV} {us : List Value} (R : Reps A w e.D us) : ∃ al cl am cm ap cp aa ca aS cS, us = [S e.room, S e.snd, S e.ty, .bool e.st, S e.key, .int .i64 e.con.kind, .bool e.con.is, .int .i64 e.con.num, S e.con.str, .slice al e.con.list.length cl, .slice am e.con.map.length cm, .slice ap e.prev.length cp, .slice aa e.auth.length ca, .int .i64 e.dep, .int .i64 e.time, S e.hash, .slice aS e.sigs.length cS] ∧
  Reps A w e.con.D [.int .i64 e.con.kind, .bool e.con.is, .int .i64 e.con.num, S e.con.str, .slice al e.con.list.length cl, .slice am e.con.map.length cm] ∧ Rep A w (strD e.prev) (.slice ap e.prev.length cp) ∧ Rep A w (strD e.auth) (.slice aa e.auth.length ca) ∧ Rep A w (flat 3 Sig3.cells e.sigs) (.slice aS e.sigs.length cS) := by
 obtain ⟨cs, ap, cp, aa, ca, aS, cS, rfl, h1, h2, h3, h4⟩ := cells_ R
 obtain ⟨al, cl, am, cm, rfl, _, _⟩ := JV.cells_ h1
 exact ⟨al, cl, am, cm, ap, cp, aa, ca, aS, cS, rfl, h1, h2, h3, h4⟩
theorem at_ {A : List Nat} {w : World} {es : List EV} {e : EV} {ad : Option Addr} {n c i : Nat} (R : Rep A w (.sl 17 (es.map EV.D)) (.slice ad n c)) (h : es[i]? = some e) : ∃ a us, ad = some a ∧ Reps A w e.D us ∧ Cs w (a.add (i * 17)) us := by
 obtain ⟨a, us, h1, h2, _, h3, _⟩ := Rep.at_ (i := i) (r := e.D) R (by simp [h])
 exact ⟨a, us, h1, h2, h3⟩
def ok (e : EV) : Prop := e.room.length ≤ 140737488351232 ∧ e.snd.length ≤ 140737488351232 ∧ e.ty.length ≤ 140737488351232 ∧ e.key.length ≤ 140737488351232 ∧ e.con.ok ∧ (∀ s ∈ e.prev, s.length ≤ 140737488351232) ∧ e.prev.length ≤ 140737488351232 ∧ (∀ s ∈ e.auth, s.length ≤ 140737488351232) ∧ e.auth.length ≤ 140737488351232 ∧ e.hash.length ≤ 140737488351232 ∧ (∀ s ∈ e.sigs, s.srv.length ≤ 140737488351232 ∧ s.key.length ≤ 140737488351232 ∧ s.sig.length ≤ 140737488351232) ∧ e.sigs.length ≤ 140737488351232
end EV
def addW : List Nat → Nat → Nat → Nat
 | [], n, _ => n
 | x :: r, n, most => if n ≤ most then addW r (n + x) most else n
theorem addW_at {l : List Nat} {k n most x : Nat} (h : l[k]? = some x) (hn : n ≤ most) : addW (l.drop k) n most = addW (l.drop (k + 1)) (n + x) most := by
 obtain ⟨hk, rfl⟩ := List.getElem?_eq_some_iff.1 h
 rw [List.drop_eq_getElem_cons hk, addW, if_pos hn]
theorem addW_end {l : List Nat} {k n most : Nat} (h : l.length ≤ k) : addW (l.drop k) n most = n := by
 rw [List.drop_eq_nil_of_le h, addW]
theorem addW_big {l : List Nat} {n most : Nat} (h : ¬ n ≤ most) : addW l n most = n := by cases l <;> simp [addW, h]
namespace EV
def n0 (e : EV) : Nat := e.room.length + e.snd.length + e.ty.length + e.key.length + e.hash.length + e.prev.length + e.auth.length + e.sigs.length
def n1 (e : EV) (most : Nat) : Nat := addW (e.prev.map List.length) e.n0 most
def n2 (e : EV) (most : Nat) : Nat := addW (e.auth.map List.length) (e.n1 most) most
def n3 (e : EV) (most : Nat) : Nat := addW (e.sigs.map fun s => s.srv.length + s.key.length + s.sig.length) (e.n2 most) most
def great (e : EV) (most : Nat) : Bool := decide (e.n3 most > most) || decide (e.con.weigh ((most : Int) - e.n3 most) 60 < 0)
end EV
end Go.Proofs.YtknndpjacklkeaaGreatDoor.V

set_option linter.unusedVariables false
set_option linter.unusedSimpArgs false
set_option maxRecDepth 10000
namespace Go.Proofs.YtknndpjacklkeaaGreatDoor.V
open Go Go.Proofs

theorem c_write_all : ∀ N : Nat, ∀ (w : World) (v : JV) (us : List Value) (deep : Nat) (b : Str) (u0 : Value), v.sz ≤ N → OwB w u0 b → b.length ≤ 65536 → Reps (ob u0) w v.D us → deep ≤ 32 → Tab w → gT ∉ ob u0 → Calls Tryz.prog 124 [u0, .agg us.toArray, .int .i64 (deep : Int)].toArray w (Ret fun u w' => WR w w' u0 (v.wr deep b) u)
 | 0, w, v, us, deep, b, u0, h, O, hb, R, hd, hT, hgt => absurd (JV.sz_eq v) (by omega)
 | N + 1, w, v, us, deep, b, u0, h, O, hb, R, hd, hT, hgt => c_write_step N (c_write_all N) w v us deep b u0 h O hb R hd hT hgt
/-- a value's canonical text, or an error -/
theorem c_write (w : World) (v : JV) (us : List Value) (R : Reps [] w v.D us) (hT : Tab w) : Calls Tryz.prog 124 [.slice none 0 0, .agg us.toArray, .int .i64 0].toArray w (Ret fun u w' => WR w w' (.slice none 0 0) (v.wr 0 []) u) :=
 c_write_all v.sz w v us 0 [] (.slice none 0 0) (Nat.le_refl _) (Own.nil w 5 1) (by simp) R (by omega) hT (by simp [ob])

theorem c_canonR (w : World) (v : JV) (us : List Value) (R : Reps [] w v.D us) (hT : Tab w) : Calls Tryz.prog 65 [.agg us.toArray].toArray w (Ret fun u w' => u = .tuple #[S (bts (v.wr 0 [])), .int .i64 (ern (v.wr 0 []))] ∧ Mod [] w w') := by
 refine enter Tryz.func65 rfl rfl rfl (l := [(0, _)]) ⟨rfl, trivial⟩ ?_
 have E := Mod.refl [] w
 obtain ⟨al, cl, am, cm, rfl, Rl, Rm⟩ := JV.cells_ R
 have R := JV.reps_ Rl Rm
 refine Cq fun K1 hK1 => Cr (s_box rfl rfl rfl fun g1 w1 N1 => ?_)
 have Lg1_E := N1.le E
 replace E := E.then N1.mod
 have Bg1 := N1.blk
 refine tW 2 rfl (Ln (e_K (hK1 _ _ _ _ (Cq fun K2 hK2 => Cr (Sv (o_lda (vs := [_, _, _, _, _, _]) ag25 rfl rfl (Bg1.cs rfl)) (sc (oC ent124 rfl) (c_write _ v _ (R.to0 E) (hT.mod E (by simp))) rfl fun v_ w2 h_ => ?_))))))
 obtain ⟨u6, rfl, hO6, hob6, hm6, hl6⟩ := h_
 replace E := E.then (hm6.mono (by simp [ob]))
 obtain ⟨ad6, c6, rfl, hc61, hc62⟩ := hO6.form
 exact tW 5 rfl (Ln (e_K (hK2 _ _ _ _ (Cq fun K3 hK3 => Cr (Zm rfl (Sv (o_b2s_own (u := bts (v.wr 0 [])) Tryz.underlying74 Tryz.underlying5 Tryz.underlying9 rfl (hO6.same rfl (cells_b8 _))) (tW 3 rfl (Ln (e_K (hK3 _ _ _ _ (cR (ret2 rfl rfl rfl ⟨rfl, E⟩))))))))))))
end Go.Proofs.YtknndpjacklkeaaGreatDoor.V
