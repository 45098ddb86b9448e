/-
  A part of the proof: walks of functions. No condition of its own.
-/
import Derived.Test.YtkhbnhdlelmbnaaDoorM6
import Derived.Test.YtkhbnhdlelmbnaaDoorM3
set_option linter.unusedVariables false
set_option linter.unusedSimpArgs false
set_option maxRecDepth 10000
namespace Go.Proofs.YtkhbnhdlelmbnaaDoor.V
open Go Go.Proofs
theorem ent49 : Ent Tryd.prog 49 := Ent.of Tryd.func49 (by kernel_rfl) (by kernel_rfl)
theorem ent46 : Ent Tryd.prog 46 := Ent.of Tryd.func46 (by kernel_rfl) (by kernel_rfl)
theorem ent51 : Ent Tryd.prog 51 := Ent.of Tryd.func51 (by kernel_rfl) (by kernel_rfl)
theorem ent22 : Ent Tryd.prog 22 := Ent.of Tryd.func22 (by kernel_rfl) (by kernel_rfl)
theorem c_write_step (N : Nat) (ih : ∀ (w : World) (v : JV) (us : List Value) (deep : Nat) (b : Str) (u0 : Value), v.sz ≤ N → OwB w u0 b → b.length ≤ 65536 → Reps (ob u0) w v.D us → deep ≤ 32 → Tab w → gT ∉ ob u0 → Calls Tryd.prog 22 [u0, .agg us.toArray, .int .i64 (deep : Int)].toArray w (Ret fun u w' => WR w w' u0 (v.wr deep b) u)) (w : World) (v : JV) (us : List Value) (deep : Nat) (b : Str) (u0 : Value) (hN : v.sz ≤ N + 1) (O : OwB w u0 b) (hb : b.length ≤ 65536) (R : Reps (ob u0) w v.D us) (hd : deep ≤ 32) (hT : Tab w) (hgt : gT ∉ ob u0) : Calls Tryd.prog 22 [u0, .agg us.toArray, .int .i64 (deep : Int)].toArray w (Ret fun u w' => WR w w' u0 (v.wr deep b) u) := by
  refine enter Tryd.func22 rfl rfl rfl (l := [(0, _), (1, _), (2, _)]) ⟨rfl, rfl, rfl, trivial⟩ ?_
  have E := Mod.refl [] w
  obtain ⟨al, cl, am, cm, rfl, Rl, Rm⟩ := JV.cells_ R
  have R0 := (JV.reps_ Rl Rm).anti (A' := []) (by simp)
  refine c_seq fun K1 hK1 => ?_
  refine c_region ?_
  refine s_box rfl rfl rfl fun g1 w1 N1 => ?_
  have Lg1_E := N1.le E
  replace E := E.then N1.mod
  have Bg1 := N1.blk
  refine sv (o_as rfl) rfl ?_
  refine sv (o_as rfl) rfl ?_
  refine l_nil ?_
  refine e_K (hK1 _ _ _ _ ?_)
  refine c_seq fun K2 hK2 => ?_
  refine c_seq fun K3 hK3 => ?_
  refine c_region ?_
  refine sv (o_lda (vs := [_, _, _, _, _, _]) ag25 rfl rfl (Bg1.cs rfl)) rfl ?_
  refine sc (o_call ent49 rfl) (c_bare _ v _ (R0.to0 E)) rfl fun v_ w2 h_ => ?_
  obtain ⟨rfl, E_⟩ := h_
  replace Bg1 := Bg1.mod0 E_
  replace E := E.then E_
  refine sv (o_not rfl) rfl ?_
  refine l_nil ?_
  refine e_K (hK3 _ _ _ _ ?_)
  refine c_cond rfl (fun h15 => ?_) (fun h15 => ?_)
  · skip
    have hr : v.wr deep b = .error 1 := by rw [JV.wr_eq, if_pos (by simpa using h15)]
    refine c_seq fun K4 hK4 => ?_
    refine c_region ?_
    refine sv (o_as rfl) rfl ?_
    refine sv (o_as rfl) rfl ?_
    refine l_nil ?_
    refine e_K (hK4 _ _ _ _ ?_)
    refine c_ret ?_
    refine e_then (by simp) ?_
    exact ret2 rfl rfl rfl (WR.err E (by decide) hr)
  · skip
    have hbare : v.bare = true := by simpa using h15
    have hne : ¬ v.bare = false := by rw [hbare]; simp
    refine c_skip ?_
    refine e_K (hK2 _ _ _ _ ?_)
    refine c_seq fun K5 hK5 => ?_
    refine c_seq fun K6 hK6 => ?_
    refine c_region ?_
    refine sv (o_fa0 fd25_0 rfl) rfl ?_
    refine sv (o_ld sc3 rfl (Bg1.cell rfl)) rfl ?_
    refine l_nil ?_
    refine e_K (hK6 _ _ _ _ ?_)
    refine c_block ?_
    refine c_seq fun K7 hK7 => ?_
    refine c_region ?_
    refine sv (o_eql rfl rfl) rfl ?_
    refine sv (o_as rfl) rfl ?_
    refine l_nil ?_
    refine e_K (hK7 _ _ _ _ ?_)
    refine c_if rfl (fun h18 => ?_) (fun h18 => ?_)
    · skip
      have hr : v.wr deep b = lng (b ++ JV.tNull) := by rw [JV.wr_eq, if_neg hne, if_pos h18]
      refine c_seq fun K8 hK8 => ?_
      refine c_region ?_
      refine sv (o_mv rfl) rfl ?_
      refine s_append sl45 rfl rfl (O.mod0 E) (Src.str Tryd.underlying9 JV.tNull) (by decide) (by first | omega | (simp only [List.length_append, List.length_cons, List.length_nil] at *; omega)) (by first | omega | (simp only [List.length_append, List.length_cons, List.length_nil] at *; omega)) rfl fun u1 w3 AA => ?_
      have O1 : OwB w3 u1 (b ++ JV.tNull) := AA.own.same (by simp) (by simp [cells_b8, B8])
      refine sc (o_call ent50 rfl) (c_long9 _ (b ++ JV.tNull) _ O1) rfl fun v_ w4 h_ => ?_
      obtain ⟨u2, rfl, hu2, E_⟩ := h_
      refine sv (o_ext rfl rfl) rfl ?_
      refine sv (o_ext rfl rfl) rfl ?_
      refine sv (o_as rfl) rfl ?_
      refine sv (o_as rfl) rfl ?_
      refine l_nil ?_
      refine e_K (hK8 _ _ _ _ ?_)
      refine c_ret ?_
      refine e_in (by simp) ?_
      refine e_then (by simp) ?_
      exact ret2 rfl rfl rfl (WR.applong E AA O1 hu2 E_ hr)
    · skip
      refine c_seq fun K9 hK9 => ?_
      refine c_region ?_
      refine sv (o_eql rfl rfl) rfl ?_
      refine sv (o_as rfl) rfl ?_
      refine l_nil ?_
      refine e_K (hK9 _ _ _ _ ?_)
      refine c_if rfl (fun h25 => ?_) (fun h25 => ?_)
      · skip
        refine c_seq fun K10 hK10 => ?_
        refine c_seq fun K11 hK11 => ?_
        refine c_region ?_
        refine sv (o_fa0 fd25_1 rfl) rfl ?_
        refine sv (o_ld sc4 rfl (Bg1.cell rfl)) rfl ?_
        refine l_nil ?_
        refine e_K (hK11 _ _ _ _ ?_)
        refine c_cond rfl (fun h28 => ?_) (fun h28 => ?_)
        · skip
          have hr : v.wr deep b = lng (b ++ JV.tTrue) := by rw [JV.wr_eq, if_neg hne, if_neg h18, if_pos h25, if_pos h28]
          refine c_seq fun K12 hK12 => ?_
          refine c_region ?_
          refine sv (o_mv rfl) rfl ?_
          refine s_append sl45 rfl rfl (O.mod0 E) (Src.str Tryd.underlying9 JV.tTrue) (by decide) (by first | omega | (simp only [List.length_append, List.length_cons, List.length_nil] at *; omega)) (by first | omega | (simp only [List.length_append, List.length_cons, List.length_nil] at *; omega)) rfl fun u1 w5 AA => ?_
          have O1 : OwB w5 u1 (b ++ JV.tTrue) := AA.own.same (by simp) (by simp [cells_b8, B8])
          refine sc (o_call ent50 rfl) (c_long9 _ (b ++ JV.tTrue) _ O1) rfl fun v_ w6 h_ => ?_
          obtain ⟨u2, rfl, hu2, E_⟩ := h_
          refine sv (o_ext rfl rfl) rfl ?_
          refine sv (o_ext rfl rfl) rfl ?_
          refine sv (o_as rfl) rfl ?_
          refine sv (o_as rfl) rfl ?_
          refine l_nil ?_
          refine e_K (hK12 _ _ _ _ ?_)
          refine c_ret ?_
          refine e_then (by simp) ?_
          refine e_in (by simp) ?_
          refine e_then (by simp) ?_
          exact ret2 rfl rfl rfl (WR.applong E AA O1 hu2 E_ hr)
        · skip
          have hr : v.wr deep b = lng (b ++ JV.tFalse) := by rw [JV.wr_eq, if_neg hne, if_neg h18, if_pos h25, if_neg (by rw [h28]; decide)]
          refine c_skip ?_
          refine e_K (hK10 _ _ _ _ ?_)
          refine c_seq fun K13 hK13 => ?_
          refine c_region ?_
          refine sv (o_mv rfl) rfl ?_
          refine s_append sl45 rfl rfl (O.mod0 E) (Src.str Tryd.underlying9 JV.tFalse) (by decide) (by first | omega | (simp only [List.length_append, List.length_cons, List.length_nil] at *; omega)) (by first | omega | (simp only [List.length_append, List.length_cons, List.length_nil] at *; omega)) rfl fun u1 w7 AA => ?_
          have O1 : OwB w7 u1 (b ++ JV.tFalse) := AA.own.same (by simp) (by simp [cells_b8, B8])
          refine sc (o_call ent50 rfl) (c_long9 _ (b ++ JV.tFalse) _ O1) rfl fun v_ w8 h_ => ?_
          obtain ⟨u2, rfl, hu2, E_⟩ := h_
          refine sv (o_ext rfl rfl) rfl ?_
          refine sv (o_ext rfl rfl) rfl ?_
          refine sv (o_as rfl) rfl ?_
          refine sv (o_as rfl) rfl ?_
          refine l_nil ?_
          refine e_K (hK13 _ _ _ _ ?_)
          refine c_ret ?_
          refine e_in (by simp) ?_
          refine e_then (by simp) ?_
          exact ret2 rfl rfl rfl (WR.applong E AA O1 hu2 E_ hr)
      · skip
        refine c_seq fun K14 hK14 => ?_
        refine c_region ?_
        refine sv (o_eql rfl rfl) rfl ?_
        refine sv (o_as rfl) rfl ?_
        refine l_nil ?_
        refine e_K (hK14 _ _ _ _ ?_)
        refine c_if rfl (fun h39 => ?_) (fun h39 => ?_)
        · skip
          have hr : v.wr deep b = lng (b ++ Lib.itoa v.num) := by rw [JV.wr_eq, if_neg hne, if_neg h18, if_neg h25, if_pos h39]
          refine c_seq fun K15 hK15 => ?_
          refine c_region ?_
          refine sv (o_mv rfl) rfl ?_
          refine sv (o_fa0 fd25_2 rfl) rfl ?_
          refine sv (o_ld sc3 rfl (Bg1.cell rfl)) rfl ?_
          obtain ⟨hn0, hn1⟩ := bare_num hbare h39
          have hil := Lib.itoa_length_le v.num (by omega) (by omega)
          refine sc (o_call ent46 rfl) (c_itoa _ v.num (by omega) (by omega) (hT.mod E (by simp))) rfl fun v_ w9 h_ => ?_
          obtain ⟨rfl, E_⟩ := h_
          replace Bg1 := Bg1.mod0 E_
          replace E := E.then E_
          refine s_append sl45 rfl rfl (O.mod0 E) (Src.str Tryd.underlying9 (Lib.itoa v.num)) (by decide) (by first | omega | (simp only [List.length_append, List.length_cons, List.length_nil] at *; omega)) (by first | omega | (simp only [List.length_append, List.length_cons, List.length_nil] at *; omega)) rfl fun u1 w10 AA => ?_
          have O1 : OwB w10 u1 (b ++ Lib.itoa v.num) := AA.own.same (by simp) (by simp [cells_b8, B8])
          refine sc (o_call ent50 rfl) (c_long9 _ (b ++ Lib.itoa v.num) _ O1) rfl fun v_ w11 h_ => ?_
          obtain ⟨u2, rfl, hu2, E_⟩ := h_
          refine sv (o_ext rfl rfl) rfl ?_
          refine sv (o_ext rfl rfl) rfl ?_
          refine sv (o_as rfl) rfl ?_
          refine sv (o_as rfl) rfl ?_
          refine l_nil ?_
          refine e_K (hK15 _ _ _ _ ?_)
          refine c_ret ?_
          refine e_in (by simp) ?_
          refine e_then (by simp) ?_
          exact ret2 rfl rfl rfl (WR.applong E AA O1 hu2 E_ hr)
        · skip
          refine c_seq fun K16 hK16 => ?_
          refine c_region ?_
          refine sv (o_eql rfl rfl) rfl ?_
          refine sv (o_as rfl) rfl ?_
          refine l_nil ?_
          refine e_K (hK16 _ _ _ _ ?_)
          refine c_if rfl (fun h49 => ?_) (fun h49 => ?_)
          · skip
            have hr : v.wr deep b = txtW b v.str := by rw [JV.wr_eq, if_neg hne, if_neg h18, if_neg h25, if_neg h39, if_pos h49]
            refine c_seq fun K17 hK17 => ?_
            refine c_region ?_
            refine sv (o_mv rfl) rfl ?_
            refine sv (o_fa0 fd25_3 rfl) rfl ?_
            refine sv (o_ld sc9 rfl (Bg1.cell rfl)) rfl ?_
            refine sc (o_call ent51 rfl) (c_text9 _ b v.str _ (O.mod0 E) hb) rfl fun v_ w12 h_ => ?_
            obtain ⟨u6, rfl, hO6, hob6, hm6, hl6⟩ := h_
            refine sv (o_ext rfl rfl) rfl ?_
            refine sv (o_ext rfl rfl) rfl ?_
            refine sv (o_as rfl) rfl ?_
            refine sv (o_as rfl) rfl ?_
            refine l_nil ?_
            refine e_K (hK17 _ _ _ _ ?_)
            refine c_ret ?_
            refine e_in (by simp) ?_
            refine e_then (by simp) ?_
            exact ret2 rfl rfl rfl (WR.from_ E ⟨u6, rfl, hO6, hob6, hm6, hl6⟩ hr)
          · skip
            refine c_skip ?_
            refine e_in (by simp) ?_
            refine e_K (hK5 _ _ _ _ ?_)
            refine c_seq fun K18 hK18 => ?_
            refine c_seq fun K19 hK19 => ?_
            refine c_region ?_
            refine sv (o_mv rfl) rfl ?_
            refine sv (o_eql rfl rfl) rfl ?_
            refine l_nil ?_
            refine e_K (hK19 _ _ _ _ ?_)
            refine c_if rfl (fun h58 => ?_) (fun h58 => ?_)
            · skip
              have hr : v.wr deep b = .error 5 := by rw [JV.wr_eq, if_neg hne, if_neg h18, if_neg h25, if_neg h39, if_neg h49, if_pos (by omega)]
              refine c_seq fun K20 hK20 => ?_
              refine c_region ?_
              refine sv (o_as rfl) rfl ?_
              refine sv (o_as rfl) rfl ?_
              refine l_nil ?_
              refine e_K (hK20 _ _ _ _ ?_)
              refine c_ret ?_
              refine e_then (by simp) ?_
              exact ret2 rfl rfl rfl (WR.err E (by decide) hr)
            · skip
              refine c_skip ?_
              refine e_K (hK18 _ _ _ _ ?_)
              refine c_seq fun K21 hK21 => ?_
              refine c_seq fun K22 hK22 => ?_
              refine c_region ?_
              refine sv (o_fa0 fd25_0 rfl) rfl ?_
              refine sv (o_ld sc3 rfl (Bg1.cell rfl)) rfl ?_
              refine sv (o_eql rfl rfl) rfl ?_
              refine l_nil ?_
              refine e_K (hK22 _ _ _ _ ?_)
              refine c_if rfl (fun h61 => ?_) (fun h61 => ?_)
              · skip
                have hr : v.wr deep b = ((lng (b ++ [91])).bind fun b => JV.wrl v.list deep true b).bind fun b => lng (b ++ [93]) := by rw [JV.wr_eq, if_neg hne, if_neg h18, if_neg h25, if_neg h39, if_neg h49, if_neg (by omega), if_pos h61]; cases lng (b ++ [91]) <;> rfl
                refine c_seq fun K23 hK23 => ?_
                refine c_region ?_
                refine sv (o_mv rfl) rfl ?_
                refine s_bslice (cs := [_]) sl45 zv5 rfl rfl rfl (by decide) rfl fun g2 w13 N2 => ?_
                have Lg2_E := N2.le E
                have Dg1_g2 := N2.ne Bg1
                replace Bg1 := Bg1.mod0 N2.mod
                replace E := E.then N2.mod
                have Bg2 := N2.blk
                have H0 := WS.init E O hb Bg1 Lg1_E Rl Rm
                refine s_append sl45 rfl rfl H0.own (Src.own Tryd.underlying45 (Own.all (c := 1) (cs := [_]) Bg2 rfl (by omega)) (by simp [Value.oneCell', B8])) (by decide) (by omega) (by omega) rfl fun u1 w14 AA => ?_
                have O1 : OwB w14 u1 (b ++ [91]) := AA.own.same (by simp) (by simp [cells_b8, B8])
                refine sc (o_call ent50 rfl) (c_long9 _ (b ++ [91]) _ O1) rfl fun v_ w15 h_ => ?_
                obtain ⟨u2, rfl, hu2, E_⟩ := h_
                have H := H0.applong AA O1 hu2 E_
                refine sv (o_mv rfl) rfl ?_
                refine sv (o_ext rfl rfl) rfl ?_
                refine sv (o_ext rfl rfl) rfl ?_
                refine sv (o_as rfl) rfl ?_
                refine sv (o_as rfl) rfl ?_
                refine l_nil ?_
                refine e_K (hK23 _ _ _ _ ?_)
                refine c_seq fun K24 hK24 => ?_
                refine c_seq fun K25 hK25 => ?_
                refine c_region ?_
                refine sv (o_as rfl) rfl ?_
                refine l_nil ?_
                refine e_K (hK25 _ _ _ _ ?_)
                refine c_block ?_
                refine c_loop (σ := Nat × Value × Str × Except Int Str) (fun ⟨k, u, bb, r⟩ => [(2, .int .i64 (deep : Int)), (4, .pointer (some ⟨g1, 0, none⟩)), (8, u), (9, .int .i64 (ern r)), (10, .int .i64 (k : Int))]) (fun ⟨k, u, bb, r⟩ w1 => k ≤ v.list.length ∧ (r.bind fun b => JV.wrl (v.list.drop k) deep (decide (k = 0)) b) = ((lng (b ++ [91])).bind fun b => JV.wrl v.list deep true b) ∧ (∀ b, r = .ok b → b = bb) ∧ WS w w1 u0 g1 25 [.int .i64 v.kind, .bool v.is, .int .i64 v.num, S v.str, .slice al v.list.length cl, .slice am v.map.length cm] v al am cl cm u bb) (fun ⟨k, u, bb, r⟩ => v.list.length - k) (⟨0, u2, bts (lng (b ++ [91])), lng (b ++ [91])⟩) ⟨rfl, rfl, rfl, rfl, rfl, trivial⟩ (⟨by omega, rfl, fun b_ h_ => by rw [h_]; rfl, H⟩) ?_
                rintro ⟨k, u, bb, r⟩ w16 ⟨hk, hinv, hrb, H⟩
                refine c_seq fun K26 hK26 => ?_
                refine c_seq fun K27 hK27 => ?_
                by_cases hs19_0 : (k : Int) < (v.list.length : Int)
                · skip
                  refine c_region ?_
                  refine sv (o_mv rfl) rfl ?_
                  refine sv (o_fa0 fd25_4 rfl) rfl ?_
                  refine sv (o_ld sc22 rfl (H.blk.cell rfl)) rfl ?_
                  refine sv (o_len Tryd.underlying22 rfl) rfl ?_
                  refine sv (o_lss rfl rfl) rfl ?_
                  refine sv (o_mv rfl) rfl ?_
                  refine sg rfl (decide_eq_true hs19_0) (o_mv rfl) rfl ?_
                  refine sg rfl (decide_eq_true hs19_0) (o_eql rfl rfl) rfl ?_
                  refine sv (o_pickT (decide_eq_true hs19_0) rfl rfl) rfl ?_
                  refine l_nil ?_
                  refine e_K (hK27 _ _ _ _ ?_)
                  refine c_if rfl (fun h77 => ?_) (fun h77 => ?_)
                  · skip
                    obtain ⟨b1, rfl⟩ := ern_ok h77
                    obtain rfl := hrb b1 rfl
                    obtain ⟨x, hx_x⟩ : ∃ x, v.list[k]? = some x := ⟨_, List.getElem?_eq_getElem (by omega)⟩
                    have hcp := JV.cap_l H.rl
                    refine c_skip ?_
                    refine e_K (hK26 _ _ _ _ ?_)
                    refine c_seq fun K28 hK28 => ?_
                    refine c_block ?_
                    refine c_seq fun K29 hK29 => ?_
                    refine c_seq fun K30 hK30 => ?_
                    refine c_region ?_
                    refine sv (o_mv rfl) rfl ?_
                    refine sv (o_gtr rfl rfl) rfl ?_
                    refine l_nil ?_
                    refine e_K (hK30 _ _ _ _ ?_)
                    refine c_if rfl (fun h81 => ?_) (fun h81 => ?_)
                    · skip
                      have hinv2 := wrl_step hx_x hinv (r1 := lng (b1 ++ [44])) (by rw [if_neg (by simp; omega)])
                      refine c_region ?_
                      refine sv (o_mv rfl) rfl ?_
                      refine s_bslice (cs := [_]) sl45 zv5 rfl rfl rfl (by decide) rfl fun g3 w17 N3 => ?_
                      have Dg1_g3 := N3.ne H.blk
                      replace H := H.mod0 N3.mod
                      have Bg3 := N3.blk
                      have hHl := H.len
                      refine s_append sl45 rfl rfl H.own (Src.own Tryd.underlying45 (Own.all (c := 1) (cs := [_]) Bg3 rfl (by omega)) (by simp [Value.oneCell', B8])) (by decide) (by omega) (by omega) rfl fun u1 w18 AA => ?_
                      have O1 : OwB w18 u1 (b1 ++ [44]) := AA.own.same (by simp) (by simp [cells_b8, B8])
                      refine sc (o_call ent50 rfl) (c_long9 _ (b1 ++ [44]) _ O1) rfl fun v_ w19 h_ => ?_
                      obtain ⟨u2, rfl, hu2, E_⟩ := h_
                      replace H := H.applong AA O1 hu2 E_
                      clear AA O1 hu2
                      refine sv (o_mv rfl) rfl ?_
                      refine sv (o_ext rfl rfl) rfl ?_
                      refine sv (o_ext rfl rfl) rfl ?_
                      refine sv (o_as rfl) rfl ?_
                      refine sv (o_as rfl) rfl ?_
                      refine l_nil ?_
                      refine e_K (hK29 _ _ _ _ ?_)
                      refine c_seq fun K31 hK31 => ?_
                      refine c_region ?_
                      refine sv (o_mv rfl) rfl ?_
                      refine sv (o_eql rfl rfl) rfl ?_
                      refine l_nil ?_
                      refine e_K (hK31 _ _ _ _ ?_)
                      refine c_if rfl (fun h90 => ?_) (fun h90 => ?_)
                      · skip
                        obtain ⟨b2, hb2⟩ := ern_ok h90
                        rw [hb2] at H hinv2
                        replace H := H.ok
                        refine c_region ?_
                        obtain ⟨a_x, us_x, ha_x, R_x, hcs_x⟩ := JV.at_l H.rl hx_x
                        obtain ⟨al_x, cl_x, am_x, cm_x, rfl, Rl_x, Rm_x⟩ := JV.cells_ R_x
                        have hcap_x := JV.cap_l H.rl
                        
                        cases ha_x
                        refine sv (o_mv rfl) rfl ?_
                        refine sv (o_fa0 fd25_4 rfl) rfl ?_
                        refine sv (o_ld sc22 rfl (H.blk.cell rfl)) rfl ?_
                        refine sv (o_mv rfl) rfl ?_
                        refine sv (o_ix sl22 rfl rfl (by omega)) rfl ?_
                        refine sv (o_lda ag25 rfl rfl hcs_x) rfl ?_
                        refine sv (o_mv rfl) rfl ?_
                        refine sv (o_addE (r := ((deep + 1 : Nat) : Int)) rfl rfl (by rw [wrap64_in _ (by omega)]; omega)) rfl ?_
                        refine sc (o_call ent22 rfl) (ih _ x _ (deep + 1) b2 _ (by have := JV.sz_in_list (List.mem_of_getElem? hx_x); omega) H.own H.len R_x (by omega) (hT.mod H.mod hgt) (fun h => (H.hob _ h).elim hgt (fun h => by have := hT.lt; omega))) rfl fun v_ w20 h_ => ?_
                        obtain ⟨u5, rfl, hO5, hob5, hm5, hl5⟩ := h_
                        replace H := H.step hm5 hO5 hob5 hl5
                        refine sv (o_mv rfl) rfl ?_
                        refine sv (o_ext rfl rfl) rfl ?_
                        refine sv (o_ext rfl rfl) rfl ?_
                        refine sv (o_as rfl) rfl ?_
                        refine sv (o_as rfl) rfl ?_
                        refine l_nil ?_
                        refine e_in (by simp) ?_
                        refine e_K (hK28 _ _ _ _ ?_)
                        refine c_region ?_
                        refine sv (o_mv rfl) rfl ?_
                        refine sv (o_addN rfl rfl (by omega)) rfl ?_
                        refine sv (o_as rfl) rfl ?_
                        refine l_nil ?_
                        exact e_round (σ := Nat × Value × Str × Except Int Str) (s := ⟨k, u, b1, Except.ok b1⟩) (⟨k + 1, u5, (bts (JV.wr x (deep + 1) b2)), (JV.wr x (deep + 1) b2)⟩) ⟨rfl, rfl, rfl, rfl, rfl, trivial⟩ ⟨by omega, hinv2, (fun b_ h_ => by rw [h_]; rfl), H⟩ (by dsimp only; omega)
                      · skip
                        skip
                        refine c_skip ?_
                        refine e_in (by simp) ?_
                        refine e_K (hK28 _ _ _ _ ?_)
                        refine c_region ?_
                        refine sv (o_mv rfl) rfl ?_
                        refine sv (o_addN rfl rfl (by omega)) rfl ?_
                        refine sv (o_as rfl) rfl ?_
                        refine l_nil ?_
                        exact e_round (σ := Nat × Value × Str × Except Int Str) (s := ⟨k, u, b1, Except.ok b1⟩) (⟨k + 1, u2, (bts (lng (b1 ++ [44]))), (lng (b1 ++ [44]))⟩) ⟨rfl, rfl, rfl, rfl, rfl, trivial⟩ ⟨by omega, (by have := hinv2; obtain ⟨e_, he_⟩ := ern_no h90; rw [he_] at this ⊢; exact this), (fun b_ h_ => by rw [h_]; rfl), H⟩ (by dsimp only; omega)
                    · skip
                      have hinv2 := wrl_step hx_x hinv (r1 := Except.ok b1) (by rw [if_pos (by simp; omega)])
                      refine c_skip ?_
                      refine e_K (hK29 _ _ _ _ ?_)
                      refine c_seq fun K32 hK32 => ?_
                      refine c_region ?_
                      refine sv (o_mv rfl) rfl ?_
                      refine sv (o_eql rfl rfl) rfl ?_
                      refine l_nil ?_
                      refine e_K (hK32 _ _ _ _ ?_)
                      refine c_if rfl (fun h90 => ?_) (fun h90 => ?_)
                      · skip
                        obtain ⟨b2, hb2⟩ : ∃ b2, b2 = b1 := ⟨_, rfl⟩
                        rw [← hb2] at H hinv2
                        refine c_region ?_
                        obtain ⟨a_x, us_x, ha_x, R_x, hcs_x⟩ := JV.at_l H.rl hx_x
                        obtain ⟨al_x, cl_x, am_x, cm_x, rfl, Rl_x, Rm_x⟩ := JV.cells_ R_x
                        have hcap_x := JV.cap_l H.rl
                        
                        cases ha_x
                        refine sv (o_mv rfl) rfl ?_
                        refine sv (o_fa0 fd25_4 rfl) rfl ?_
                        refine sv (o_ld sc22 rfl (H.blk.cell rfl)) rfl ?_
                        refine sv (o_mv rfl) rfl ?_
                        refine sv (o_ix sl22 rfl rfl (by omega)) rfl ?_
                        refine sv (o_lda ag25 rfl rfl hcs_x) rfl ?_
                        refine sv (o_mv rfl) rfl ?_
                        refine sv (o_addE (r := ((deep + 1 : Nat) : Int)) rfl rfl (by rw [wrap64_in _ (by omega)]; omega)) rfl ?_
                        refine sc (o_call ent22 rfl) (ih _ x _ (deep + 1) b2 _ (by have := JV.sz_in_list (List.mem_of_getElem? hx_x); omega) H.own H.len R_x (by omega) (hT.mod H.mod hgt) (fun h => (H.hob _ h).elim hgt (fun h => by have := hT.lt; omega))) rfl fun v_ w21 h_ => ?_
                        obtain ⟨u5, rfl, hO5, hob5, hm5, hl5⟩ := h_
                        replace H := H.step hm5 hO5 hob5 hl5
                        refine sv (o_mv rfl) rfl ?_
                        refine sv (o_ext rfl rfl) rfl ?_
                        refine sv (o_ext rfl rfl) rfl ?_
                        refine sv (o_as rfl) rfl ?_
                        refine sv (o_as rfl) rfl ?_
                        refine l_nil ?_
                        refine e_in (by simp) ?_
                        refine e_K (hK28 _ _ _ _ ?_)
                        refine c_region ?_
                        refine sv (o_mv rfl) rfl ?_
                        refine sv (o_addN rfl rfl (by omega)) rfl ?_
                        refine sv (o_as rfl) rfl ?_
                        refine l_nil ?_
                        exact e_round (σ := Nat × Value × Str × Except Int Str) (s := ⟨k, u, b1, Except.ok b1⟩) (⟨k + 1, u5, (bts (JV.wr x (deep + 1) b2)), (JV.wr x (deep + 1) b2)⟩) ⟨rfl, rfl, rfl, rfl, rfl, trivial⟩ ⟨by omega, hinv2, (fun b_ h_ => by rw [h_]; rfl), H⟩ (by dsimp only; omega)
                      · skip
                        exact absurd rfl h90
                  · skip
                    have hW : r = ((lng (b ++ [91])).bind fun b => JV.wrl v.list deep true b) := by rw [← hinv, bind_no h77]
                    refine c_exit ?_
                    refine e_then (by simp) ?_
                    refine e_then (by simp) ?_
                    refine e_hit ?_
                    refine e_K (hK24 _ _ _ _ ?_)
                    refine c_seq fun K33 hK33 => ?_
                    refine c_seq fun K34 hK34 => ?_
                    refine c_region ?_
                    refine sv (o_mv rfl) rfl ?_
                    refine sv (o_neq rfl rfl) rfl ?_
                    refine l_nil ?_
                    refine e_K (hK34 _ _ _ _ ?_)
                    refine c_if rfl (fun h104 => ?_) (fun h104 => ?_)
                    · skip
                      have hrr : v.wr deep b = r := by rw [hr, ← hW, bind_no h104]
                      refine c_seq fun K35 hK35 => ?_
                      refine c_region ?_
                      refine sv (o_mv rfl) rfl ?_
                      refine sv (o_as rfl) rfl ?_
                      refine sv (o_as rfl) rfl ?_
                      refine l_nil ?_
                      refine e_K (hK35 _ _ _ _ ?_)
                      refine c_ret ?_
                      refine e_then (by simp) ?_
                      refine e_then (by simp) ?_
                      exact ret2 rfl rfl rfl (by rw [hrr]; exact H.err h104)
                    · skip
                      obtain ⟨b3, rfl⟩ := ern_ok (Classical.byContradiction h104)
                      obtain rfl := hrb b3 rfl
                      have hrr : v.wr deep b = lng (b3 ++ [93]) := by rw [hr, ← hW]; rfl
                      refine c_skip ?_
                      refine e_K (hK33 _ _ _ _ ?_)
                      refine c_seq fun K36 hK36 => ?_
                      refine c_region ?_
                      refine sv (o_mv rfl) rfl ?_
                      refine s_bslice (cs := [_]) sl45 zv5 rfl rfl rfl (by decide) rfl fun g4 w22 N4 => ?_
                      have Dg1_g4 := N4.ne H.blk
                      replace H := H.mod0 N4.mod
                      have Bg4 := N4.blk
                      have hHl := H.len
                      refine s_append sl45 rfl rfl H.own (Src.own Tryd.underlying45 (Own.all (c := 1) (cs := [_]) Bg4 rfl (by omega)) (by simp [Value.oneCell', B8])) (by decide) (by omega) (by omega) rfl fun u1 w23 AA => ?_
                      have O1 : OwB w23 u1 (b3 ++ [93]) := AA.own.same (by simp) (by simp [cells_b8, B8])
                      refine sc (o_call ent50 rfl) (c_long9 _ (b3 ++ [93]) _ O1) rfl fun v_ w24 h_ => ?_
                      obtain ⟨u2, rfl, hu2, E_⟩ := h_
                      refine sv (o_ext rfl rfl) rfl ?_
                      refine sv (o_ext rfl rfl) rfl ?_
                      refine sv (o_as rfl) rfl ?_
                      refine sv (o_as rfl) rfl ?_
                      refine l_nil ?_
                      refine e_K (hK36 _ _ _ _ ?_)
                      refine c_ret ?_
                      refine e_then (by simp) ?_
                      exact ret2 rfl rfl rfl (H.fin AA O1 hu2 E_ hrr)
                · skip
                  refine c_region ?_
                  refine sv (o_mv rfl) rfl ?_
                  refine sv (o_fa0 fd25_4 rfl) rfl ?_
                  refine sv (o_ld sc22 rfl (H.blk.cell rfl)) rfl ?_
                  refine sv (o_len Tryd.underlying22 rfl) rfl ?_
                  refine sv (o_lss rfl rfl) rfl ?_
                  refine sv (o_mv rfl) rfl ?_
                  refine sn rfl (fun e_ => absurd ((decide_eq_false hs19_0).symm.trans e_) (by decide)) rfl ?_
                  refine sn rfl (fun e_ => absurd ((decide_eq_false hs19_0).symm.trans e_) (by decide)) rfl ?_
                  refine sv (o_pickF (decide_eq_false hs19_0) rfl rfl) rfl ?_
                  refine l_nil ?_
                  refine e_K (hK27 _ _ _ _ ?_)
                  refine c_false rfl ?_
                  have hW : r = ((lng (b ++ [91])).bind fun b => JV.wrl v.list deep true b) := by rw [← hinv]; simp only [wrl_end (l := v.list) (k := k) (by omega), bind_self]
                  refine c_exit ?_
                  refine e_then (by simp) ?_
                  refine e_then (by simp) ?_
                  refine e_hit ?_
                  refine e_K (hK24 _ _ _ _ ?_)
                  refine c_seq fun K37 hK37 => ?_
                  refine c_seq fun K38 hK38 => ?_
                  refine c_region ?_
                  refine sv (o_mv rfl) rfl ?_
                  refine sv (o_neq rfl rfl) rfl ?_
                  refine l_nil ?_
                  refine e_K (hK38 _ _ _ _ ?_)
                  refine c_if rfl (fun h104 => ?_) (fun h104 => ?_)
                  · skip
                    have hrr : v.wr deep b = r := by rw [hr, ← hW, bind_no h104]
                    refine c_seq fun K39 hK39 => ?_
                    refine c_region ?_
                    refine sv (o_mv rfl) rfl ?_
                    refine sv (o_as rfl) rfl ?_
                    refine sv (o_as rfl) rfl ?_
                    refine l_nil ?_
                    refine e_K (hK39 _ _ _ _ ?_)
                    refine c_ret ?_
                    refine e_then (by simp) ?_
                    refine e_then (by simp) ?_
                    exact ret2 rfl rfl rfl (by rw [hrr]; exact H.err h104)
                  · skip
                    obtain ⟨b3, rfl⟩ := ern_ok (Classical.byContradiction h104)
                    obtain rfl := hrb b3 rfl
                    have hrr : v.wr deep b = lng (b3 ++ [93]) := by rw [hr, ← hW]; rfl
                    refine c_skip ?_
                    refine e_K (hK37 _ _ _ _ ?_)
                    refine c_seq fun K40 hK40 => ?_
                    refine c_region ?_
                    refine sv (o_mv rfl) rfl ?_
                    refine s_bslice (cs := [_]) sl45 zv5 rfl rfl rfl (by decide) rfl fun g5 w25 N5 => ?_
                    have Dg1_g5 := N5.ne H.blk
                    replace H := H.mod0 N5.mod
                    have Bg5 := N5.blk
                    have hHl := H.len
                    refine s_append sl45 rfl rfl H.own (Src.own Tryd.underlying45 (Own.all (c := 1) (cs := [_]) Bg5 rfl (by omega)) (by simp [Value.oneCell', B8])) (by decide) (by omega) (by omega) rfl fun u1 w26 AA => ?_
                    have O1 : OwB w26 u1 (b3 ++ [93]) := AA.own.same (by simp) (by simp [cells_b8, B8])
                    refine sc (o_call ent50 rfl) (c_long9 _ (b3 ++ [93]) _ O1) rfl fun v_ w27 h_ => ?_
                    obtain ⟨u2, rfl, hu2, E_⟩ := h_
                    refine sv (o_ext rfl rfl) rfl ?_
                    refine sv (o_ext rfl rfl) rfl ?_
                    refine sv (o_as rfl) rfl ?_
                    refine sv (o_as rfl) rfl ?_
                    refine l_nil ?_
                    refine e_K (hK40 _ _ _ _ ?_)
                    refine c_ret ?_
                    refine e_then (by simp) ?_
                    exact ret2 rfl rfl rfl (H.fin AA O1 hu2 E_ hrr)
              · skip
                have hr : v.wr deep b = ((lng (b ++ [123])).bind fun b => JV.wrm v.map deep none b).bind fun b => lng (b ++ [125]) := by rw [JV.wr_eq, if_neg hne, if_neg h18, if_neg h25, if_neg h39, if_neg h49, if_neg (by omega), if_neg h61]; cases lng (b ++ [123]) <;> rfl
                refine c_skip ?_
                refine e_K (hK21 _ _ _ _ ?_)
                refine c_seq fun K41 hK41 => ?_
                refine c_region ?_
                refine sv (o_mv rfl) rfl ?_
                refine s_bslice (cs := [_]) sl45 zv5 rfl rfl rfl (by decide) rfl fun g6 w28 N6 => ?_
                have Lg6_E := N6.le E
                have Dg1_g6 := N6.ne Bg1
                replace Bg1 := Bg1.mod0 N6.mod
                replace E := E.then N6.mod
                have Bg6 := N6.blk
                have H0 := WS.init E O hb Bg1 Lg1_E Rl Rm
                refine s_append sl45 rfl rfl H0.own (Src.own Tryd.underlying45 (Own.all (c := 1) (cs := [_]) Bg6 rfl (by omega)) (by simp [Value.oneCell', B8])) (by decide) (by omega) (by omega) rfl fun u1 w29 AA => ?_
                have O1 : OwB w29 u1 (b ++ [123]) := AA.own.same (by simp) (by simp [cells_b8, B8])
                refine sc (o_call ent50 rfl) (c_long9 _ (b ++ [123]) _ O1) rfl fun v_ w30 h_ => ?_
                obtain ⟨u2, rfl, hu2, E_⟩ := h_
                have H := H0.applong AA O1 hu2 E_
                refine sv (o_mv rfl) rfl ?_
                refine sv (o_ext rfl rfl) rfl ?_
                refine sv (o_ext rfl rfl) rfl ?_
                refine sv (o_as rfl) rfl ?_
                refine sv (o_as rfl) rfl ?_
                refine l_nil ?_
                refine e_K (hK41 _ _ _ _ ?_)
                refine c_seq fun K42 hK42 => ?_
                refine c_seq fun K43 hK43 => ?_
                refine c_region ?_
                refine sv (o_as rfl) rfl ?_
                refine l_nil ?_
                refine e_K (hK43 _ _ _ _ ?_)
                refine c_block ?_
                refine c_loop (σ := Nat × Value × Str × Except Int Str) (fun ⟨k, u, bb, r⟩ => [(0, u), (2, .int .i64 (deep : Int)), (4, .pointer (some ⟨g1, 0, none⟩)), (11, .int .i64 (ern r)), (12, .int .i64 (k : Int))]) (fun ⟨k, u, bb, r⟩ w1 => k ≤ v.map.length ∧ (r.bind fun b => JV.wrm (v.map.drop k) deep (prevK v.map k) b) = ((lng (b ++ [123])).bind fun b => JV.wrm v.map deep none b) ∧ (∀ b, r = .ok b → b = bb) ∧ WS w w1 u0 g1 25 [.int .i64 v.kind, .bool v.is, .int .i64 v.num, S v.str, .slice al v.list.length cl, .slice am v.map.length cm] v al am cl cm u bb) (fun ⟨k, u, bb, r⟩ => v.map.length - k) (⟨0, u2, bts (lng (b ++ [123])), lng (b ++ [123])⟩) ⟨rfl, rfl, rfl, rfl, rfl, trivial⟩ (⟨by omega, rfl, fun b_ h_ => by rw [h_]; rfl, H⟩) ?_
                rintro ⟨k, u, bb, r⟩ w31 ⟨hk, hinv, hrb, H⟩
                refine c_seq fun K44 hK44 => ?_
                refine c_seq fun K45 hK45 => ?_
                by_cases hs30_0 : (k : Int) < (v.map.length : Int)
                · skip
                  refine c_region ?_
                  refine sv (o_mv rfl) rfl ?_
                  refine sv (o_fa0 fd25_5 rfl) rfl ?_
                  refine sv (o_ld sc23 rfl (H.blk.cell rfl)) rfl ?_
                  refine sv (o_len Tryd.underlying23 rfl) rfl ?_
                  refine sv (o_lss rfl rfl) rfl ?_
                  refine sv (o_mv rfl) rfl ?_
                  refine sg rfl (decide_eq_true hs30_0) (o_mv rfl) rfl ?_
                  refine sg rfl (decide_eq_true hs30_0) (o_eql rfl rfl) rfl ?_
                  refine sv (o_pickT (decide_eq_true hs30_0) rfl rfl) rfl ?_
                  refine l_nil ?_
                  refine e_K (hK45 _ _ _ _ ?_)
                  refine c_if rfl (fun h127 => ?_) (fun h127 => ?_)
                  · skip
                    obtain ⟨b1, rfl⟩ := ern_ok h127
                    obtain rfl := hrb b1 rfl
                    obtain ⟨x, hx_x⟩ : ∃ x, v.map[k]? = some x := ⟨_, List.getElem?_eq_getElem (by omega)⟩
                    have hcp := JV.cap_m H.rm
                    refine c_skip ?_
                    refine e_K (hK44 _ _ _ _ ?_)
                    refine c_seq fun K46 hK46 => ?_
                    refine c_block ?_
                    refine c_seq fun K47 hK47 => ?_
                    refine c_seq fun K48 hK48 => ?_
                    refine c_region ?_
                    refine sv (o_mv rfl) rfl ?_
                    refine sv (o_gtr rfl rfl) rfl ?_
                    refine l_nil ?_
                    refine e_K (hK48 _ _ _ _ ?_)
                    refine c_if rfl (fun h131 => ?_) (fun h131 => ?_)
                    · skip
                      obtain ⟨q, hx_q⟩ : ∃ q, v.map[k - 1]? = some q := ⟨_, List.getElem?_eq_getElem (by omega)⟩
                      have hinv2 := wrm_step hx_x hx_q (by omega) hinv
                      refine c_seq fun K49 hK49 => ?_
                      refine c_region ?_
                      refine sv (o_mv rfl) rfl ?_
                      refine s_bslice (cs := [_]) sl45 zv5 rfl rfl rfl (by decide) rfl fun g7 w32 N7 => ?_
                      have Dg1_g7 := N7.ne H.blk
                      replace H := H.mod0 N7.mod
                      have Bg7 := N7.blk
                      have hHl := H.len
                      refine s_append sl45 rfl rfl H.own (Src.own Tryd.underlying45 (Own.all (c := 1) (cs := [_]) Bg7 rfl (by omega)) (by simp [Value.oneCell', B8])) (by decide) (by omega) (by omega) rfl fun u1 w33 AA => ?_
                      have O1 : OwB w33 u1 (b1 ++ [44]) := AA.own.same (by simp) (by simp [cells_b8, B8])
                      refine sc (o_call ent50 rfl) (c_long9 _ (b1 ++ [44]) _ O1) rfl fun v_ w34 h_ => ?_
                      obtain ⟨u2, rfl, hu2, E_⟩ := h_
                      replace H := H.applong AA O1 hu2 E_
                      clear AA O1 hu2
                      refine sv (o_mv rfl) rfl ?_
                      refine sv (o_ext rfl rfl) rfl ?_
                      refine sv (o_ext rfl rfl) rfl ?_
                      refine sv (o_as rfl) rfl ?_
                      refine sv (o_as rfl) rfl ?_
                      refine l_nil ?_
                      refine e_K (hK49 _ _ _ _ ?_)
                      refine c_seq fun K50 hK50 => ?_
                      by_cases hs34_0 : ern (lng (b1 ++ [44])) = 0
                      · skip
                        obtain ⟨a_x, us_x, ha_x, R_x, hcs_x⟩ := JV.at_m H.rm hx_x
                        obtain ⟨al_x, cl_x, am_x, cm_x, rfl, Rl_x, Rm_x⟩ := JV.cells_ R_x
                        have hcap_x := JV.cap_m H.rm
                        
                        obtain ⟨a_q, us_q, ha_q, R_q, hcs_q⟩ := JV.at_m H.rm hx_q
                        obtain ⟨al_q, cl_q, am_q, cm_q, rfl, Rl_q, Rm_q⟩ := JV.cells_ R_q
                        have hcap_q := JV.cap_m H.rm
                        
                        cases ha_x
                        cases ha_q
                        by_cases hs34_1 : (bl x.1 q.1 || x.1 == q.1) = true
                        · skip
                          refine c_draw wide (by kernel_rfl) ?_
                          refine tv (fun w_ E_ => (o_mv rfl)) rfl rfl ?_
                          refine tv (fun w_ E_ => (o_eql rfl rfl)) rfl rfl ?_
                          refine tv (fun w_ E_ => (o_mv rfl)) rfl rfl ?_
                          refine tvg rfl (decide_eq_true hs34_0) (fun w_ E_ => (o_fa0 fd25_5 rfl)) rfl rfl ?_
                          refine tvg rfl (decide_eq_true hs34_0) (fun w_ E_ => (o_ld sc23 rfl ((H.blk.mod0 E_).cell rfl))) rfl rfl ?_
                          refine tvg rfl (decide_eq_true hs34_0) (fun w_ E_ => (o_mv rfl)) rfl rfl ?_
                          refine tvg rfl (decide_eq_true hs34_0) (fun w_ E_ => (o_ix sl23 rfl rfl (by omega))) rfl rfl ?_
                          refine tvg rfl (decide_eq_true hs34_0) (fun w_ E_ => (o_fad fd62_0 rfl)) rfl rfl ?_
                          refine tvg rfl (decide_eq_true hs34_0) (fun w_ E_ => (o_ld sc9 rfl ((hcs_x.mod0 E_) 0 _ rfl))) rfl rfl ?_
                          refine tvg rfl (decide_eq_true hs34_0) (fun w_ E_ => (o_fa0 fd25_5 rfl)) rfl rfl ?_
                          refine tvg rfl (decide_eq_true hs34_0) (fun w_ E_ => (o_ld sc23 rfl ((H.blk.mod0 E_).cell rfl))) rfl rfl ?_
                          refine tvg rfl (decide_eq_true hs34_0) (fun w_ E_ => (o_mv rfl)) rfl rfl ?_
                          refine tvg rfl (decide_eq_true hs34_0) (fun w_ E_ => (o_subE (r := ((k - 1 : Nat) : Int)) rfl rfl (by rw [wrap64_in _ (by omega)]; omega))) rfl rfl ?_
                          refine tvg rfl (decide_eq_true hs34_0) (fun w_ E_ => (o_ix sl23 rfl rfl (by omega))) rfl rfl ?_
                          refine tvg rfl (decide_eq_true hs34_0) (fun w_ E_ => (o_fad fd62_0 rfl)) rfl rfl ?_
                          refine tvg rfl (decide_eq_true hs34_0) (fun w_ E_ => (o_ld sc9 rfl ((hcs_q.mod0 E_) 0 _ rfl))) rfl rfl ?_
                          refine tvg rfl (decide_eq_true hs34_0) (fun w_ E_ => (o_sle rfl rfl)) rfl rfl ?_
                          refine tv (fun w_ E_ => (o_pickT (decide_eq_true hs34_0) rfl rfl)) rfl rfl ?_
                          refine tw_nil rfl fun w35 E_ => ?_
                          replace H := H.mod0 E_
                          refine e_K (hK50 _ _ _ _ ?_)
                          refine c_cond rfl (fun h156 => ?_) (fun h156 => absurd ((hs34_1).symm.trans h156) (by decide))
                          obtain ⟨b2, hb2⟩ := ern_ok hs34_0
                          have hinv3 : (Except.error 1 : Except Int Str) = ((lng (b ++ [123])).bind fun b => JV.wrm v.map deep none b) := by
                            have h_ := hinv2
                            rw [hb2] at h_
                            simp only [Except.bind, bl_le hs34_1] at h_ ⊢
                            exact h_
                          refine c_region ?_
                          refine sv (o_as rfl) rfl ?_
                          refine l_nil ?_
                          refine e_K (hK47 _ _ _ _ ?_)
                          refine c_seq fun K51 hK51 => ?_
                          refine c_seq fun K52 hK52 => ?_
                          refine c_region ?_
                          refine sv (o_mv rfl) rfl ?_
                          refine sv (o_eql rfl rfl) rfl ?_
                          refine l_nil ?_
                          refine e_K (hK52 _ _ _ _ ?_)
                          refine c_if rfl (fun h158 => ?_) (fun h158 => ?_)
                          · skip
                            exact absurd h158 (by decide)
                          · skip
                            skip
                            refine c_skip ?_
                            refine e_K (hK51 _ _ _ _ ?_)
                            refine c_seq fun K53 hK53 => ?_
                            refine c_seq fun K54 hK54 => ?_
                            refine c_region ?_
                            refine sv (o_mv rfl) rfl ?_
                            refine sv (o_eql rfl rfl) rfl ?_
                            refine l_nil ?_
                            refine e_K (hK54 _ _ _ _ ?_)
                            refine c_if rfl (fun h171 => ?_) (fun h171 => ?_)
                            · skip
                              exact absurd h171 (by decide)
                            · skip
                              skip
                              refine c_skip ?_
                              refine e_K (hK53 _ _ _ _ ?_)
                              refine c_seq fun K55 hK55 => ?_
                              refine c_region ?_
                              refine sv (o_mv rfl) rfl ?_
                              refine sv (o_eql rfl rfl) rfl ?_
                              refine l_nil ?_
                              refine e_K (hK55 _ _ _ _ ?_)
                              refine c_if rfl (fun h180 => ?_) (fun h180 => ?_)
                              · skip
                                exact absurd h180 (by decide)
                              · skip
                                skip
                                refine c_skip ?_
                                refine e_in (by simp) ?_
                                refine e_K (hK46 _ _ _ _ ?_)
                                refine c_region ?_
                                refine sv (o_mv rfl) rfl ?_
                                refine sv (o_addN rfl rfl (by omega)) rfl ?_
                                refine sv (o_as rfl) rfl ?_
                                refine l_nil ?_
                                exact e_round (σ := Nat × Value × Str × Except Int Str) (s := ⟨k, u, b1, Except.ok b1⟩) (⟨k + 1, u2, (bts (lng (b1 ++ [44]))), (Except.error 1)⟩) ⟨rfl, rfl, rfl, rfl, rfl, trivial⟩ ⟨by omega, hinv3, (fun b_ h_ => by cases h_), H⟩ (by dsimp only; omega)
                        · skip
                          have hq_x := le_bl hs34_1
                          refine c_draw wide (by kernel_rfl) ?_
                          refine tv (fun w_ E_ => (o_mv rfl)) rfl rfl ?_
                          refine tv (fun w_ E_ => (o_eql rfl rfl)) rfl rfl ?_
                          refine tv (fun w_ E_ => (o_mv rfl)) rfl rfl ?_
                          refine tvg rfl (decide_eq_true hs34_0) (fun w_ E_ => (o_fa0 fd25_5 rfl)) rfl rfl ?_
                          refine tvg rfl (decide_eq_true hs34_0) (fun w_ E_ => (o_ld sc23 rfl ((H.blk.mod0 E_).cell rfl))) rfl rfl ?_
                          refine tvg rfl (decide_eq_true hs34_0) (fun w_ E_ => (o_mv rfl)) rfl rfl ?_
                          refine tvg rfl (decide_eq_true hs34_0) (fun w_ E_ => (o_ix sl23 rfl rfl (by omega))) rfl rfl ?_
                          refine tvg rfl (decide_eq_true hs34_0) (fun w_ E_ => (o_fad fd62_0 rfl)) rfl rfl ?_
                          refine tvg rfl (decide_eq_true hs34_0) (fun w_ E_ => (o_ld sc9 rfl ((hcs_x.mod0 E_) 0 _ rfl))) rfl rfl ?_
                          refine tvg rfl (decide_eq_true hs34_0) (fun w_ E_ => (o_fa0 fd25_5 rfl)) rfl rfl ?_
                          refine tvg rfl (decide_eq_true hs34_0) (fun w_ E_ => (o_ld sc23 rfl ((H.blk.mod0 E_).cell rfl))) rfl rfl ?_
                          refine tvg rfl (decide_eq_true hs34_0) (fun w_ E_ => (o_mv rfl)) rfl rfl ?_
                          refine tvg rfl (decide_eq_true hs34_0) (fun w_ E_ => (o_subE (r := ((k - 1 : Nat) : Int)) rfl rfl (by rw [wrap64_in _ (by omega)]; omega))) rfl rfl ?_
                          refine tvg rfl (decide_eq_true hs34_0) (fun w_ E_ => (o_ix sl23 rfl rfl (by omega))) rfl rfl ?_
                          refine tvg rfl (decide_eq_true hs34_0) (fun w_ E_ => (o_fad fd62_0 rfl)) rfl rfl ?_
                          refine tvg rfl (decide_eq_true hs34_0) (fun w_ E_ => (o_ld sc9 rfl ((hcs_q.mod0 E_) 0 _ rfl))) rfl rfl ?_
                          refine tvg rfl (decide_eq_true hs34_0) (fun w_ E_ => (o_sle rfl rfl)) rfl rfl ?_
                          refine tv (fun w_ E_ => (o_pickT (decide_eq_true hs34_0) rfl rfl)) rfl rfl ?_
                          refine tw_nil rfl fun w36 E_ => ?_
                          replace H := H.mod0 E_
                          refine e_K (hK50 _ _ _ _ ?_)
                          refine c_cond rfl (fun h156 => absurd ((Bool.eq_false_iff.2 hs34_1).symm.trans h156) (by decide)) (fun h156 => ?_)
                          refine c_skip ?_
                          refine e_K (hK47 _ _ _ _ ?_)
                          refine c_seq fun K56 hK56 => ?_
                          refine c_seq fun K57 hK57 => ?_
                          refine c_region ?_
                          refine sv (o_mv rfl) rfl ?_
                          refine sv (o_eql rfl rfl) rfl ?_
                          refine l_nil ?_
                          refine e_K (hK57 _ _ _ _ ?_)
                          refine c_if rfl (fun h158 => ?_) (fun h158 => ?_)
                          · skip
                            obtain ⟨b2, hb2⟩ := ern_ok h158
                            rw [hb2] at H hinv2
                            replace H := H.ok
                            have hinv2 : ((txtW b2 x.1).bind fun b => (lng (b ++ [58])).bind fun b => (JV.wr x.2 (deep + 1) b).bind fun b => JV.wrm (v.map.drop (k + 1)) deep (prevK v.map (k + 1)) b) = ((lng (b ++ [123])).bind fun b => JV.wrm v.map deep none b) := by
                              have h_ := hinv2
                              simp only [Except.bind, if_pos hq_x] at h_ ⊢
                              exact h_
                            refine c_region ?_
                            obtain ⟨a_x, us_x, ha_x, R_x, hcs_x⟩ := JV.at_m H.rm hx_x
                            obtain ⟨al_x, cl_x, am_x, cm_x, rfl, Rl_x, Rm_x⟩ := JV.cells_ R_x
                            have hcap_x := JV.cap_m H.rm
                            
                            cases ha_x
                            refine sv (o_mv rfl) rfl ?_
                            refine sv (o_fa0 fd25_5 rfl) rfl ?_
                            refine sv (o_ld sc23 rfl (H.blk.cell rfl)) rfl ?_
                            refine sv (o_mv rfl) rfl ?_
                            refine sv (o_ix sl23 rfl rfl (by omega)) rfl ?_
                            refine sv (o_fad fd62_0 rfl) rfl ?_
                            refine sv (o_ld sc9 rfl (hcs_x 0 _ rfl)) rfl ?_
                            refine sc (o_call ent51 rfl) (c_text9 _ b2 x.1 _ H.own H.len) rfl fun v_ w37 h_ => ?_
                            obtain ⟨u6, rfl, hO6, hob6, hm6, hl6⟩ := h_
                            replace H := H.step hm6 hO6 hob6 hl6
                            refine sv (o_mv rfl) rfl ?_
                            refine sv (o_ext rfl rfl) rfl ?_
                            refine sv (o_ext rfl rfl) rfl ?_
                            refine sv (o_as rfl) rfl ?_
                            refine sv (o_as rfl) rfl ?_
                            refine l_nil ?_
                            refine e_K (hK56 _ _ _ _ ?_)
                            refine c_seq fun K58 hK58 => ?_
                            refine c_seq fun K59 hK59 => ?_
                            refine c_region ?_
                            refine sv (o_mv rfl) rfl ?_
                            refine sv (o_eql rfl rfl) rfl ?_
                            refine l_nil ?_
                            refine e_K (hK59 _ _ _ _ ?_)
                            refine c_if rfl (fun h171 => ?_) (fun h171 => ?_)
                            · skip
                              obtain ⟨b3, hb3⟩ := ern_ok h171
                              rw [hb3] at H hinv2
                              replace H := H.ok
                              replace hinv2 := okb hinv2
                              refine c_region ?_
                              refine sv (o_mv rfl) rfl ?_
                              refine s_bslice (cs := [_]) sl45 zv5 rfl rfl rfl (by decide) rfl fun g8 w38 N8 => ?_
                              have Dg1_g8 := N8.ne H.blk
                              replace H := H.mod0 N8.mod
                              have Bg8 := N8.blk
                              have hHl := H.len
                              refine s_append sl45 rfl rfl H.own (Src.own Tryd.underlying45 (Own.all (c := 1) (cs := [_]) Bg8 rfl (by omega)) (by simp [Value.oneCell', B8])) (by decide) (by omega) (by omega) rfl fun u1 w39 AA => ?_
                              have O1 : OwB w39 u1 (b3 ++ [58]) := AA.own.same (by simp) (by simp [cells_b8, B8])
                              refine sc (o_call ent50 rfl) (c_long9 _ (b3 ++ [58]) _ O1) rfl fun v_ w40 h_ => ?_
                              obtain ⟨u7, rfl, hu2, E_⟩ := h_
                              replace H := H.applong AA O1 hu2 E_
                              clear AA O1 hu2
                              refine sv (o_mv rfl) rfl ?_
                              refine sv (o_ext rfl rfl) rfl ?_
                              refine sv (o_ext rfl rfl) rfl ?_
                              refine sv (o_as rfl) rfl ?_
                              refine sv (o_as rfl) rfl ?_
                              refine l_nil ?_
                              refine e_K (hK58 _ _ _ _ ?_)
                              refine c_seq fun K60 hK60 => ?_
                              refine c_region ?_
                              refine sv (o_mv rfl) rfl ?_
                              refine sv (o_eql rfl rfl) rfl ?_
                              refine l_nil ?_
                              refine e_K (hK60 _ _ _ _ ?_)
                              refine c_if rfl (fun h180 => ?_) (fun h180 => ?_)
                              · skip
                                obtain ⟨b4, hb4⟩ := ern_ok h180
                                rw [hb4] at H hinv2
                                replace H := H.ok
                                replace hinv2 := okb hinv2
                                refine c_region ?_
                                obtain ⟨a_x, us_x, ha_x, R_x, hcs_x⟩ := JV.at_m H.rm hx_x
                                obtain ⟨al_x, cl_x, am_x, cm_x, rfl, Rl_x, Rm_x⟩ := JV.cells_ R_x
                                have hcap_x := JV.cap_m H.rm
                                
                                cases ha_x
                                refine sv (o_mv rfl) rfl ?_
                                refine sv (o_fa0 fd25_5 rfl) rfl ?_
                                refine sv (o_ld sc23 rfl (H.blk.cell rfl)) rfl ?_
                                refine sv (o_mv rfl) rfl ?_
                                refine sv (o_ix sl23 rfl rfl (by omega)) rfl ?_
                                refine sv (o_fad fd62_1 rfl) rfl ?_
                                refine sv (o_lda ag25 rfl rfl hcs_x.tail_) rfl ?_
                                refine sv (o_mv rfl) rfl ?_
                                refine sv (o_addE (r := ((deep + 1 : Nat) : Int)) rfl rfl (by rw [wrap64_in _ (by omega)]; omega)) rfl ?_
                                refine sc (o_call ent22 rfl) (ih _ x.2 _ (deep + 1) b4 _ (by have := JV.sz_in_map (List.mem_of_getElem? hx_x); omega) H.own H.len R_x (by omega) (hT.mod H.mod hgt) (fun h => (H.hob _ h).elim hgt (fun h => by have := hT.lt; omega))) rfl fun v_ w41 h_ => ?_
                                obtain ⟨u5, rfl, hO5, hob5, hm5, hl5⟩ := h_
                                replace H := H.step hm5 hO5 hob5 hl5
                                refine sv (o_mv rfl) rfl ?_
                                refine sv (o_ext rfl rfl) rfl ?_
                                refine sv (o_ext rfl rfl) rfl ?_
                                refine sv (o_as rfl) rfl ?_
                                refine sv (o_as rfl) rfl ?_
                                refine l_nil ?_
                                refine e_in (by simp) ?_
                                refine e_K (hK46 _ _ _ _ ?_)
                                refine c_region ?_
                                refine sv (o_mv rfl) rfl ?_
                                refine sv (o_addN rfl rfl (by omega)) rfl ?_
                                refine sv (o_as rfl) rfl ?_
                                refine l_nil ?_
                                exact e_round (σ := Nat × Value × Str × Except Int Str) (s := ⟨k, u, b1, Except.ok b1⟩) (⟨k + 1, u5, (bts (JV.wr x.2 (deep + 1) b4)), (JV.wr x.2 (deep + 1) b4)⟩) ⟨rfl, rfl, rfl, rfl, rfl, trivial⟩ ⟨by omega, hinv2, (fun b_ h_ => by rw [h_]; rfl), H⟩ (by dsimp only; omega)
                              · skip
                                skip
                                refine c_skip ?_
                                refine e_in (by simp) ?_
                                refine e_K (hK46 _ _ _ _ ?_)
                                refine c_region ?_
                                refine sv (o_mv rfl) rfl ?_
                                refine sv (o_addN rfl rfl (by omega)) rfl ?_
                                refine sv (o_as rfl) rfl ?_
                                refine l_nil ?_
                                exact e_round (σ := Nat × Value × Str × Except Int Str) (s := ⟨k, u, b1, Except.ok b1⟩) (⟨k + 1, u7, (bts (lng (b3 ++ [58]))), (lng (b3 ++ [58]))⟩) ⟨rfl, rfl, rfl, rfl, rfl, trivial⟩ ⟨by omega, (by have h_ := hinv2; obtain ⟨e_, he_⟩ := ern_no h180; rw [he_] at h_ ⊢; exact h_), (fun b_ h_ => by rw [h_]; rfl), H⟩ (by dsimp only; omega)
                            · skip
                              skip
                              refine c_skip ?_
                              refine e_K (hK58 _ _ _ _ ?_)
                              refine c_seq fun K61 hK61 => ?_
                              refine c_region ?_
                              refine sv (o_mv rfl) rfl ?_
                              refine sv (o_eql rfl rfl) rfl ?_
                              refine l_nil ?_
                              refine e_K (hK61 _ _ _ _ ?_)
                              refine c_if rfl (fun h180 => ?_) (fun h180 => ?_)
                              · skip
                                exact absurd h180 h171
                              · skip
                                skip
                                refine c_skip ?_
                                refine e_in (by simp) ?_
                                refine e_K (hK46 _ _ _ _ ?_)
                                refine c_region ?_
                                refine sv (o_mv rfl) rfl ?_
                                refine sv (o_addN rfl rfl (by omega)) rfl ?_
                                refine sv (o_as rfl) rfl ?_
                                refine l_nil ?_
                                exact e_round (σ := Nat × Value × Str × Except Int Str) (s := ⟨k, u, b1, Except.ok b1⟩) (⟨k + 1, u6, (bts (txtW b2 x.1)), (txtW b2 x.1)⟩) ⟨rfl, rfl, rfl, rfl, rfl, trivial⟩ ⟨by omega, (by have h_ := hinv2; obtain ⟨e_, he_⟩ := ern_no h171; rw [he_] at h_ ⊢; exact h_), (fun b_ h_ => by rw [h_]; rfl), H⟩ (by dsimp only; omega)
                          · skip
                            skip
                            refine c_skip ?_
                            refine e_K (hK56 _ _ _ _ ?_)
                            refine c_seq fun K62 hK62 => ?_
                            refine c_seq fun K63 hK63 => ?_
                            refine c_region ?_
                            refine sv (o_mv rfl) rfl ?_
                            refine sv (o_eql rfl rfl) rfl ?_
                            refine l_nil ?_
                            refine e_K (hK63 _ _ _ _ ?_)
                            refine c_if rfl (fun h171 => ?_) (fun h171 => ?_)
                            · skip
                              exact absurd h171 h158
                            · skip
                              skip
                              refine c_skip ?_
                              refine e_K (hK62 _ _ _ _ ?_)
                              refine c_seq fun K64 hK64 => ?_
                              refine c_region ?_
                              refine sv (o_mv rfl) rfl ?_
                              refine sv (o_eql rfl rfl) rfl ?_
                              refine l_nil ?_
                              refine e_K (hK64 _ _ _ _ ?_)
                              refine c_if rfl (fun h180 => ?_) (fun h180 => ?_)
                              · skip
                                exact absurd h180 h158
                              · skip
                                skip
                                refine c_skip ?_
                                refine e_in (by simp) ?_
                                refine e_K (hK46 _ _ _ _ ?_)
                                refine c_region ?_
                                refine sv (o_mv rfl) rfl ?_
                                refine sv (o_addN rfl rfl (by omega)) rfl ?_
                                refine sv (o_as rfl) rfl ?_
                                refine l_nil ?_
                                exact e_round (σ := Nat × Value × Str × Except Int Str) (s := ⟨k, u, b1, Except.ok b1⟩) (⟨k + 1, u2, (bts (lng (b1 ++ [44]))), (lng (b1 ++ [44]))⟩) ⟨rfl, rfl, rfl, rfl, rfl, trivial⟩ ⟨by omega, (by have h_ := hinv2; obtain ⟨e_, he_⟩ := ern_no h158; rw [he_] at h_ ⊢; exact h_), (fun b_ h_ => by rw [h_]; rfl), H⟩ (by dsimp only; omega)
                      · skip
                        have he34 := hs34_0
                        refine c_draw wide (by kernel_rfl) ?_
                        refine tv (fun w_ E_ => (o_mv rfl)) rfl rfl ?_
                        refine tv (fun w_ E_ => (o_eql rfl rfl)) rfl rfl ?_
                        refine tv (fun w_ E_ => (o_mv rfl)) rfl rfl ?_
                        refine tn rfl (fun e_ => absurd ((decide_eq_false hs34_0).symm.trans e_) (by decide)) rfl ?_
                        refine tn rfl (fun e_ => absurd ((decide_eq_false hs34_0).symm.trans e_) (by decide)) rfl ?_
                        refine tn rfl (fun e_ => absurd ((decide_eq_false hs34_0).symm.trans e_) (by decide)) rfl ?_
                        refine tn rfl (fun e_ => absurd ((decide_eq_false hs34_0).symm.trans e_) (by decide)) rfl ?_
                        refine tn rfl (fun e_ => absurd ((decide_eq_false hs34_0).symm.trans e_) (by decide)) rfl ?_
                        refine tn rfl (fun e_ => absurd ((decide_eq_false hs34_0).symm.trans e_) (by decide)) rfl ?_
                        refine tn rfl (fun e_ => absurd ((decide_eq_false hs34_0).symm.trans e_) (by decide)) rfl ?_
                        refine tn rfl (fun e_ => absurd ((decide_eq_false hs34_0).symm.trans e_) (by decide)) rfl ?_
                        refine tn rfl (fun e_ => absurd ((decide_eq_false hs34_0).symm.trans e_) (by decide)) rfl ?_
                        refine tn rfl (fun e_ => absurd ((decide_eq_false hs34_0).symm.trans e_) (by decide)) rfl ?_
                        refine tn rfl (fun e_ => absurd ((decide_eq_false hs34_0).symm.trans e_) (by decide)) rfl ?_
                        refine tn rfl (fun e_ => absurd ((decide_eq_false hs34_0).symm.trans e_) (by decide)) rfl ?_
                        refine tn rfl (fun e_ => absurd ((decide_eq_false hs34_0).symm.trans e_) (by decide)) rfl ?_
                        refine tn rfl (fun e_ => absurd ((decide_eq_false hs34_0).symm.trans e_) (by decide)) rfl ?_
                        refine tv (fun w_ E_ => (o_pickF (decide_eq_false hs34_0) rfl rfl)) rfl rfl ?_
                        refine tw_nil rfl fun w42 E_ => ?_
                        replace H := H.mod0 E_
                        refine e_K (hK50 _ _ _ _ ?_)
                        refine c_false rfl ?_
                        refine c_skip ?_
                        refine e_K (hK47 _ _ _ _ ?_)
                        refine c_seq fun K65 hK65 => ?_
                        refine c_seq fun K66 hK66 => ?_
                        refine c_region ?_
                        refine sv (o_mv rfl) rfl ?_
                        refine sv (o_eql rfl rfl) rfl ?_
                        refine l_nil ?_
                        refine e_K (hK66 _ _ _ _ ?_)
                        refine c_if rfl (fun h158 => ?_) (fun h158 => ?_)
                        · skip
                          exact absurd h158 hs34_0
                        · skip
                          skip
                          refine c_skip ?_
                          refine e_K (hK65 _ _ _ _ ?_)
                          refine c_seq fun K67 hK67 => ?_
                          refine c_seq fun K68 hK68 => ?_
                          refine c_region ?_
                          refine sv (o_mv rfl) rfl ?_
                          refine sv (o_eql rfl rfl) rfl ?_
                          refine l_nil ?_
                          refine e_K (hK68 _ _ _ _ ?_)
                          refine c_if rfl (fun h171 => ?_) (fun h171 => ?_)
                          · skip
                            exact absurd h171 hs34_0
                          · skip
                            skip
                            refine c_skip ?_
                            refine e_K (hK67 _ _ _ _ ?_)
                            refine c_seq fun K69 hK69 => ?_
                            refine c_region ?_
                            refine sv (o_mv rfl) rfl ?_
                            refine sv (o_eql rfl rfl) rfl ?_
                            refine l_nil ?_
                            refine e_K (hK69 _ _ _ _ ?_)
                            refine c_if rfl (fun h180 => ?_) (fun h180 => ?_)
                            · skip
                              exact absurd h180 hs34_0
                            · skip
                              skip
                              refine c_skip ?_
                              refine e_in (by simp) ?_
                              refine e_K (hK46 _ _ _ _ ?_)
                              refine c_region ?_
                              refine sv (o_mv rfl) rfl ?_
                              refine sv (o_addN rfl rfl (by omega)) rfl ?_
                              refine sv (o_as rfl) rfl ?_
                              refine l_nil ?_
                              exact e_round (σ := Nat × Value × Str × Except Int Str) (s := ⟨k, u, b1, Except.ok b1⟩) (⟨k + 1, u2, (bts (lng (b1 ++ [44]))), (lng (b1 ++ [44]))⟩) ⟨rfl, rfl, rfl, rfl, rfl, trivial⟩ ⟨by omega, (by have h_ := hinv2; obtain ⟨e_, he_⟩ := ern_no hs34_0; rw [he_] at h_ ⊢; exact h_), (fun b_ h_ => by rw [h_]; rfl), H⟩ (by dsimp only; omega)
                    · skip
                      have hinv2 := wrm_step0 hx_x (by omega) hinv
                      refine c_skip ?_
                      refine e_K (hK47 _ _ _ _ ?_)
                      refine c_seq fun K70 hK70 => ?_
                      refine c_seq fun K71 hK71 => ?_
                      refine c_region ?_
                      refine sv (o_mv rfl) rfl ?_
                      refine sv (o_eql rfl rfl) rfl ?_
                      refine l_nil ?_
                      refine e_K (hK71 _ _ _ _ ?_)
                      refine c_if rfl (fun h158 => ?_) (fun h158 => ?_)
                      · skip
                        obtain ⟨b2, hb2⟩ : ∃ b2, b2 = b1 := ⟨_, rfl⟩
                        rw [← hb2] at H hinv2
                        refine c_region ?_
                        obtain ⟨a_x, us_x, ha_x, R_x, hcs_x⟩ := JV.at_m H.rm hx_x
                        obtain ⟨al_x, cl_x, am_x, cm_x, rfl, Rl_x, Rm_x⟩ := JV.cells_ R_x
                        have hcap_x := JV.cap_m H.rm
                        
                        cases ha_x
                        refine sv (o_mv rfl) rfl ?_
                        refine sv (o_fa0 fd25_5 rfl) rfl ?_
                        refine sv (o_ld sc23 rfl (H.blk.cell rfl)) rfl ?_
                        refine sv (o_mv rfl) rfl ?_
                        refine sv (o_ix sl23 rfl rfl (by omega)) rfl ?_
                        refine sv (o_fad fd62_0 rfl) rfl ?_
                        refine sv (o_ld sc9 rfl (hcs_x 0 _ rfl)) rfl ?_
                        refine sc (o_call ent51 rfl) (c_text9 _ b2 x.1 _ H.own H.len) rfl fun v_ w43 h_ => ?_
                        obtain ⟨u6, rfl, hO6, hob6, hm6, hl6⟩ := h_
                        replace H := H.step hm6 hO6 hob6 hl6
                        refine sv (o_mv rfl) rfl ?_
                        refine sv (o_ext rfl rfl) rfl ?_
                        refine sv (o_ext rfl rfl) rfl ?_
                        refine sv (o_as rfl) rfl ?_
                        refine sv (o_as rfl) rfl ?_
                        refine l_nil ?_
                        refine e_K (hK70 _ _ _ _ ?_)
                        refine c_seq fun K72 hK72 => ?_
                        refine c_seq fun K73 hK73 => ?_
                        refine c_region ?_
                        refine sv (o_mv rfl) rfl ?_
                        refine sv (o_eql rfl rfl) rfl ?_
                        refine l_nil ?_
                        refine e_K (hK73 _ _ _ _ ?_)
                        refine c_if rfl (fun h171 => ?_) (fun h171 => ?_)
                        · skip
                          obtain ⟨b3, hb3⟩ := ern_ok h171
                          rw [hb3] at H hinv2
                          replace H := H.ok
                          replace hinv2 := okb hinv2
                          refine c_region ?_
                          refine sv (o_mv rfl) rfl ?_
                          refine s_bslice (cs := [_]) sl45 zv5 rfl rfl rfl (by decide) rfl fun g9 w44 N9 => ?_
                          have Dg1_g9 := N9.ne H.blk
                          replace H := H.mod0 N9.mod
                          have Bg9 := N9.blk
                          have hHl := H.len
                          refine s_append sl45 rfl rfl H.own (Src.own Tryd.underlying45 (Own.all (c := 1) (cs := [_]) Bg9 rfl (by omega)) (by simp [Value.oneCell', B8])) (by decide) (by omega) (by omega) rfl fun u1 w45 AA => ?_
                          have O1 : OwB w45 u1 (b3 ++ [58]) := AA.own.same (by simp) (by simp [cells_b8, B8])
                          refine sc (o_call ent50 rfl) (c_long9 _ (b3 ++ [58]) _ O1) rfl fun v_ w46 h_ => ?_
                          obtain ⟨u7, rfl, hu2, E_⟩ := h_
                          replace H := H.applong AA O1 hu2 E_
                          clear AA O1 hu2
                          refine sv (o_mv rfl) rfl ?_
                          refine sv (o_ext rfl rfl) rfl ?_
                          refine sv (o_ext rfl rfl) rfl ?_
                          refine sv (o_as rfl) rfl ?_
                          refine sv (o_as rfl) rfl ?_
                          refine l_nil ?_
                          refine e_K (hK72 _ _ _ _ ?_)
                          refine c_seq fun K74 hK74 => ?_
                          refine c_region ?_
                          refine sv (o_mv rfl) rfl ?_
                          refine sv (o_eql rfl rfl) rfl ?_
                          refine l_nil ?_
                          refine e_K (hK74 _ _ _ _ ?_)
                          refine c_if rfl (fun h180 => ?_) (fun h180 => ?_)
                          · skip
                            obtain ⟨b4, hb4⟩ := ern_ok h180
                            rw [hb4] at H hinv2
                            replace H := H.ok
                            replace hinv2 := okb hinv2
                            refine c_region ?_
                            obtain ⟨a_x, us_x, ha_x, R_x, hcs_x⟩ := JV.at_m H.rm hx_x
                            obtain ⟨al_x, cl_x, am_x, cm_x, rfl, Rl_x, Rm_x⟩ := JV.cells_ R_x
                            have hcap_x := JV.cap_m H.rm
                            
                            cases ha_x
                            refine sv (o_mv rfl) rfl ?_
                            refine sv (o_fa0 fd25_5 rfl) rfl ?_
                            refine sv (o_ld sc23 rfl (H.blk.cell rfl)) rfl ?_
                            refine sv (o_mv rfl) rfl ?_
                            refine sv (o_ix sl23 rfl rfl (by omega)) rfl ?_
                            refine sv (o_fad fd62_1 rfl) rfl ?_
                            refine sv (o_lda ag25 rfl rfl hcs_x.tail_) rfl ?_
                            refine sv (o_mv rfl) rfl ?_
                            refine sv (o_addE (r := ((deep + 1 : Nat) : Int)) rfl rfl (by rw [wrap64_in _ (by omega)]; omega)) rfl ?_
                            refine sc (o_call ent22 rfl) (ih _ x.2 _ (deep + 1) b4 _ (by have := JV.sz_in_map (List.mem_of_getElem? hx_x); omega) H.own H.len R_x (by omega) (hT.mod H.mod hgt) (fun h => (H.hob _ h).elim hgt (fun h => by have := hT.lt; omega))) rfl fun v_ w47 h_ => ?_
                            obtain ⟨u5, rfl, hO5, hob5, hm5, hl5⟩ := h_
                            replace H := H.step hm5 hO5 hob5 hl5
                            refine sv (o_mv rfl) rfl ?_
                            refine sv (o_ext rfl rfl) rfl ?_
                            refine sv (o_ext rfl rfl) rfl ?_
                            refine sv (o_as rfl) rfl ?_
                            refine sv (o_as rfl) rfl ?_
                            refine l_nil ?_
                            refine e_in (by simp) ?_
                            refine e_K (hK46 _ _ _ _ ?_)
                            refine c_region ?_
                            refine sv (o_mv rfl) rfl ?_
                            refine sv (o_addN rfl rfl (by omega)) rfl ?_
                            refine sv (o_as rfl) rfl ?_
                            refine l_nil ?_
                            exact e_round (σ := Nat × Value × Str × Except Int Str) (s := ⟨k, u, b1, Except.ok b1⟩) (⟨k + 1, u5, (bts (JV.wr x.2 (deep + 1) b4)), (JV.wr x.2 (deep + 1) b4)⟩) ⟨rfl, rfl, rfl, rfl, rfl, trivial⟩ ⟨by omega, hinv2, (fun b_ h_ => by rw [h_]; rfl), H⟩ (by dsimp only; omega)
                          · skip
                            skip
                            refine c_skip ?_
                            refine e_in (by simp) ?_
                            refine e_K (hK46 _ _ _ _ ?_)
                            refine c_region ?_
                            refine sv (o_mv rfl) rfl ?_
                            refine sv (o_addN rfl rfl (by omega)) rfl ?_
                            refine sv (o_as rfl) rfl ?_
                            refine l_nil ?_
                            exact e_round (σ := Nat × Value × Str × Except Int Str) (s := ⟨k, u, b1, Except.ok b1⟩) (⟨k + 1, u7, (bts (lng (b3 ++ [58]))), (lng (b3 ++ [58]))⟩) ⟨rfl, rfl, rfl, rfl, rfl, trivial⟩ ⟨by omega, (by have h_ := hinv2; obtain ⟨e_, he_⟩ := ern_no h180; rw [he_] at h_ ⊢; exact h_), (fun b_ h_ => by rw [h_]; rfl), H⟩ (by dsimp only; omega)
                        · skip
                          skip
                          refine c_skip ?_
                          refine e_K (hK72 _ _ _ _ ?_)
                          refine c_seq fun K75 hK75 => ?_
                          refine c_region ?_
                          refine sv (o_mv rfl) rfl ?_
                          refine sv (o_eql rfl rfl) rfl ?_
                          refine l_nil ?_
                          refine e_K (hK75 _ _ _ _ ?_)
                          refine c_if rfl (fun h180 => ?_) (fun h180 => ?_)
                          · skip
                            exact absurd h180 h171
                          · skip
                            skip
                            refine c_skip ?_
                            refine e_in (by simp) ?_
                            refine e_K (hK46 _ _ _ _ ?_)
                            refine c_region ?_
                            refine sv (o_mv rfl) rfl ?_
                            refine sv (o_addN rfl rfl (by omega)) rfl ?_
                            refine sv (o_as rfl) rfl ?_
                            refine l_nil ?_
                            exact e_round (σ := Nat × Value × Str × Except Int Str) (s := ⟨k, u, b1, Except.ok b1⟩) (⟨k + 1, u6, (bts (txtW b2 x.1)), (txtW b2 x.1)⟩) ⟨rfl, rfl, rfl, rfl, rfl, trivial⟩ ⟨by omega, (by have h_ := hinv2; obtain ⟨e_, he_⟩ := ern_no h171; rw [he_] at h_ ⊢; exact h_), (fun b_ h_ => by rw [h_]; rfl), H⟩ (by dsimp only; omega)
                      · skip
                        exact absurd rfl h158
                  · skip
                    have hW : r = ((lng (b ++ [123])).bind fun b => JV.wrm v.map deep none b) := by rw [← hinv, bind_no h127]
                    refine c_exit ?_
                    refine e_then (by simp) ?_
                    refine e_then (by simp) ?_
                    refine e_hit ?_
                    refine e_K (hK42 _ _ _ _ ?_)
                    refine c_seq fun K76 hK76 => ?_
                    refine c_seq fun K77 hK77 => ?_
                    refine c_region ?_
                    refine sv (o_mv rfl) rfl ?_
                    refine sv (o_neq rfl rfl) rfl ?_
                    refine l_nil ?_
                    refine e_K (hK77 _ _ _ _ ?_)
                    refine c_if rfl (fun h195 => ?_) (fun h195 => ?_)
                    · skip
                      have hrr : v.wr deep b = r := by rw [hr, ← hW, bind_no h195]
                      refine c_seq fun K78 hK78 => ?_
                      refine c_region ?_
                      refine sv (o_mv rfl) rfl ?_
                      refine sv (o_as rfl) rfl ?_
                      refine sv (o_as rfl) rfl ?_
                      refine l_nil ?_
                      refine e_K (hK78 _ _ _ _ ?_)
                      refine c_ret ?_
                      refine e_then (by simp) ?_
                      exact ret2 rfl rfl rfl (by rw [hrr]; exact H.err h195)
                    · skip
                      obtain ⟨b3, rfl⟩ := ern_ok (Classical.byContradiction h195)
                      obtain rfl := hrb b3 rfl
                      have hrr : v.wr deep b = lng (b3 ++ [125]) := by rw [hr, ← hW]; rfl
                      refine c_skip ?_
                      refine e_K (hK76 _ _ _ _ ?_)
                      refine c_seq fun K79 hK79 => ?_
                      refine c_region ?_
                      refine sv (o_mv rfl) rfl ?_
                      refine s_bslice (cs := [_]) sl45 zv5 rfl rfl rfl (by decide) rfl fun g10 w48 N10 => ?_
                      have Dg1_g10 := N10.ne H.blk
                      replace H := H.mod0 N10.mod
                      have Bg10 := N10.blk
                      have hHl := H.len
                      refine s_append sl45 rfl rfl H.own (Src.own Tryd.underlying45 (Own.all (c := 1) (cs := [_]) Bg10 rfl (by omega)) (by simp [Value.oneCell', B8])) (by decide) (by omega) (by omega) rfl fun u1 w49 AA => ?_
                      have O1 : OwB w49 u1 (b3 ++ [125]) := AA.own.same (by simp) (by simp [cells_b8, B8])
                      refine sc (o_call ent50 rfl) (c_long9 _ (b3 ++ [125]) _ O1) rfl fun v_ w50 h_ => ?_
                      obtain ⟨u2, rfl, hu2, E_⟩ := h_
                      refine sv (o_ext rfl rfl) rfl ?_
                      refine sv (o_ext rfl rfl) rfl ?_
                      refine sv (o_as rfl) rfl ?_
                      refine sv (o_as rfl) rfl ?_
                      refine l_nil ?_
                      refine e_K (hK79 _ _ _ _ ?_)
                      refine c_ret ?_
                      exact ret2 rfl rfl rfl (H.fin AA O1 hu2 E_ hrr)
                · skip
                  refine c_region ?_
                  refine sv (o_mv rfl) rfl ?_
                  refine sv (o_fa0 fd25_5 rfl) rfl ?_
                  refine sv (o_ld sc23 rfl (H.blk.cell rfl)) rfl ?_
                  refine sv (o_len Tryd.underlying23 rfl) rfl ?_
                  refine sv (o_lss rfl rfl) rfl ?_
                  refine sv (o_mv rfl) rfl ?_
                  refine sn rfl (fun e_ => absurd ((decide_eq_false hs30_0).symm.trans e_) (by decide)) rfl ?_
                  refine sn rfl (fun e_ => absurd ((decide_eq_false hs30_0).symm.trans e_) (by decide)) rfl ?_
                  refine sv (o_pickF (decide_eq_false hs30_0) rfl rfl) rfl ?_
                  refine l_nil ?_
                  refine e_K (hK45 _ _ _ _ ?_)
                  refine c_false rfl ?_
                  have hW : r = ((lng (b ++ [123])).bind fun b => JV.wrm v.map deep none b) := by rw [← hinv]; simp only [wrm_end (m := v.map) (k := k) (by omega), bind_self]
                  refine c_exit ?_
                  refine e_then (by simp) ?_
                  refine e_then (by simp) ?_
                  refine e_hit ?_
                  refine e_K (hK42 _ _ _ _ ?_)
                  refine c_seq fun K80 hK80 => ?_
                  refine c_seq fun K81 hK81 => ?_
                  refine c_region ?_
                  refine sv (o_mv rfl) rfl ?_
                  refine sv (o_neq rfl rfl) rfl ?_
                  refine l_nil ?_
                  refine e_K (hK81 _ _ _ _ ?_)
                  refine c_if rfl (fun h195 => ?_) (fun h195 => ?_)
                  · skip
                    have hrr : v.wr deep b = r := by rw [hr, ← hW, bind_no h195]
                    refine c_seq fun K82 hK82 => ?_
                    refine c_region ?_
                    refine sv (o_mv rfl) rfl ?_
                    refine sv (o_as rfl) rfl ?_
                    refine sv (o_as rfl) rfl ?_
                    refine l_nil ?_
                    refine e_K (hK82 _ _ _ _ ?_)
                    refine c_ret ?_
                    refine e_then (by simp) ?_
                    exact ret2 rfl rfl rfl (by rw [hrr]; exact H.err h195)
                  · skip
                    obtain ⟨b3, rfl⟩ := ern_ok (Classical.byContradiction h195)
                    obtain rfl := hrb b3 rfl
                    have hrr : v.wr deep b = lng (b3 ++ [125]) := by rw [hr, ← hW]; rfl
                    refine c_skip ?_
                    refine e_K (hK80 _ _ _ _ ?_)
                    refine c_seq fun K83 hK83 => ?_
                    refine c_region ?_
                    refine sv (o_mv rfl) rfl ?_
                    refine s_bslice (cs := [_]) sl45 zv5 rfl rfl rfl (by decide) rfl fun g11 w51 N11 => ?_
                    have Dg1_g11 := N11.ne H.blk
                    replace H := H.mod0 N11.mod
                    have Bg11 := N11.blk
                    have hHl := H.len
                    refine s_append sl45 rfl rfl H.own (Src.own Tryd.underlying45 (Own.all (c := 1) (cs := [_]) Bg11 rfl (by omega)) (by simp [Value.oneCell', B8])) (by decide) (by omega) (by omega) rfl fun u1 w52 AA => ?_
                    have O1 : OwB w52 u1 (b3 ++ [125]) := AA.own.same (by simp) (by simp [cells_b8, B8])
                    refine sc (o_call ent50 rfl) (c_long9 _ (b3 ++ [125]) _ O1) rfl fun v_ w53 h_ => ?_
                    obtain ⟨u2, rfl, hu2, E_⟩ := h_
                    refine sv (o_ext rfl rfl) rfl ?_
                    refine sv (o_ext rfl rfl) rfl ?_
                    refine sv (o_as rfl) rfl ?_
                    refine sv (o_as rfl) rfl ?_
                    refine l_nil ?_
                    refine e_K (hK83 _ _ _ _ ?_)
                    refine c_ret ?_
                    exact ret2 rfl rfl rfl (H.fin AA O1 hu2 E_ hrr)
end Go.Proofs.YtkhbnhdlelmbnaaDoor.V
