/-
  A part of the proof: walks of functions. No condition of its own.
-/
import Derived.Test.YthmohmpalbnjoaaM19
set_option linter.unusedVariables false
set_option linter.unusedSimpArgs false
set_option maxRecDepth 10000
namespace Go.Proofs.Ythmohmpalbnjoaa.V
open Go Go.Proofs

set_option maxHeartbeats 1000000 in
theorem c_DagSorts (w : World) (cs : Gm) (v0 : Value) (R : Rep [] w (ndD cs) v0) (hC : CSm cs) (rks : List Rk) (v1 : Value) (R2 : Rep [] w (rksD rks) v1) (hr2 : rks.length ≤ 140737488351232) : Calls Try.prog 5 [v0, v1].toArray w (Ret fun u w' => u = .bool true ∧ Mod [] w w') := by
  refine enter Try.func5 rfl rfl rfl (l := [(0, _), (1, _)]) ⟨rfl, rfl, trivial⟩ ?_
  have E := Mod.refl [] w
  obtain ⟨ad2, c2, rfl, h21, h22⟩ := flat_len R2
  have W := bm_wf cs
  refine c_seq fun K1 hK1 => ?_
  refine c_region ?_
  refine sv (o_as rfl) rfl ?_
  refine l_nil ?_
  refine e_K (hK1 _ _ _ _ ?_)
  refine c_seq fun K2 hK2 => ?_
  refine c_seq fun K3 hK3 => ?_
  refine c_region ?_
  refine sc (o_call ent10 rfl) (c_alive _) rfl fun v_ w1 h_ => ?_
  obtain ⟨rfl, E_⟩ := h_
  replace E := E.then E_
  refine sv ((o_not rfl).to (v' := .bool false) rfl) rfl ?_
  refine l_nil ?_
  refine e_K (hK3 _ _ _ _ ?_)
  refine c_false rfl ?_
  refine c_skip ?_
  refine e_K (hK2 _ _ _ _ ?_)
  refine c_seq fun K4 hK4 => ?_
  refine c_seq fun K5 hK5 => ?_
  by_cases hk23 : greatC cs = true
  · skip
    refine c_region ?_
    refine sv (o_mv rfl) rfl ?_
    refine sc (o_call ent11 rfl) (c_great _ cs _ (R.to0 E) hC) rfl fun v_ w2 h_ => ?_
    obtain ⟨rfl, E_⟩ := h_
    replace E := E.then E_
    refine sv (o_mv rfl) rfl ?_
    refine sn rfl (fun e_ => absurd ((hk23).symm.trans e_) (by decide)) rfl ?_
    refine sn rfl (fun e_ => absurd ((hk23).symm.trans e_) (by decide)) rfl ?_
    refine sn rfl (fun e_ => absurd ((hk23).symm.trans e_) (by decide)) rfl ?_
    refine sv (o_pickT (hk23) rfl rfl) rfl ?_
    refine l_nil ?_
    refine e_K (hK5 _ _ _ _ ?_)
    refine c_true rfl ?_
    refine c_seq fun K6 hK6 => ?_
    refine c_region ?_
    refine sv (o_as rfl) rfl ?_
    refine l_nil ?_
    refine e_K (hK6 _ _ _ _ ?_)
    refine c_ret ?_
    refine e_then (by simp) ?_
    exact ret1 rfl rfl ⟨rfl, E⟩
  · skip
    by_cases hk27 : ((rks.length : Nat) : Int) > 100
    · skip
      refine c_region ?_
      refine sv (o_mv rfl) rfl ?_
      refine sc (o_call ent11 rfl) (c_great _ cs _ (R.to0 E) hC) rfl fun v_ w3 h_ => ?_
      obtain ⟨rfl, E_⟩ := h_
      replace E := E.then E_
      refine sv (o_mv rfl) rfl ?_
      refine sg rfl (Bool.eq_false_iff.2 hk23) (o_mv rfl) rfl ?_
      refine sg rfl (Bool.eq_false_iff.2 hk23) (o_len Try.underlying24 rfl) rfl ?_
      refine sg rfl (Bool.eq_false_iff.2 hk23) (o_gtr rfl rfl) rfl ?_
      refine sv (o_pickF (Bool.eq_false_iff.2 hk23) rfl rfl) rfl ?_
      refine l_nil ?_
      refine e_K (hK5 _ _ _ _ ?_)
      refine c_if rfl (fun h28 => ?_) (fun h28 => absurd hk27 h28)
      refine c_seq fun K7 hK7 => ?_
      refine c_region ?_
      refine sv (o_as rfl) rfl ?_
      refine l_nil ?_
      refine e_K (hK7 _ _ _ _ ?_)
      refine c_ret ?_
      refine e_then (by simp) ?_
      exact ret1 rfl rfl ⟨rfl, E⟩
    · skip
      refine c_region ?_
      refine sv (o_mv rfl) rfl ?_
      refine sc (o_call ent11 rfl) (c_great _ cs _ (R.to0 E) hC) rfl fun v_ w4 h_ => ?_
      obtain ⟨rfl, E_⟩ := h_
      replace E := E.then E_
      refine sv (o_mv rfl) rfl ?_
      refine sg rfl (Bool.eq_false_iff.2 hk23) (o_mv rfl) rfl ?_
      refine sg rfl (Bool.eq_false_iff.2 hk23) (o_len Try.underlying24 rfl) rfl ?_
      refine sg rfl (Bool.eq_false_iff.2 hk23) (o_gtr rfl rfl) rfl ?_
      refine sv (o_pickF (Bool.eq_false_iff.2 hk23) rfl rfl) rfl ?_
      refine l_nil ?_
      refine e_K (hK5 _ _ _ _ ?_)
      refine c_if rfl (fun h28 => absurd h28 hk27) (fun h28 => ?_)
      refine c_skip ?_
      refine e_K (hK4 _ _ _ _ ?_)
      refine c_seq fun K8 hK8 => ?_
      refine c_region ?_
      refine sv (o_mv rfl) rfl ?_
      have hCF := great_no (Bool.eq_false_iff.2 hk23)
      refine sc (o_call ent12 rfl) (c_built _ cs _ (R.to0 E) hCF) rfl fun v_ w5 h_ => ?_
      obtain ⟨g, bA, bB, vr, rfl, G, RV, E_⟩ := h_
      replace E := E.then E_
      obtain ⟨wG, hwG⟩ : ∃ x, x = w5 := ⟨_, rfl⟩
      subst hwG
      have Eg := Mod.refl [] wG
      obtain ⟨adr, cr, rfl, hr1, hr2⟩ := ndD_len RV.rep
      have RV0 := RV.rep.anti (A' := []) (by simp)
      have hbm : (bm cs).length ≤ 60 := by have := bm_len cs; have := hCF.len; omega
      refine sv (o_mv rfl) rfl ?_
      refine sv (o_ext rfl rfl) rfl ?_
      refine sv (o_ext rfl rfl) rfl ?_
      refine sv (o_ext rfl rfl) rfl ?_
      refine sv (o_as rfl) rfl ?_
      refine sv (o_as rfl) rfl ?_
      refine sv (o_as rfl) rfl ?_
      refine l_nil ?_
      refine e_K (hK8 _ _ _ _ ?_)
      refine c_seq fun K9 hK9 => ?_
      refine c_region ?_
      refine sv (o_as rfl) rfl ?_
      refine l_nil ?_
      refine e_K (hK9 _ _ _ _ ?_)
      refine c_seq fun K10 hK10 => ?_
      refine c_region ?_
      refine sv (o_as rfl) rfl ?_
      refine l_nil ?_
      refine e_K (hK10 _ _ _ _ ?_)
      refine c_seq fun K11 hK11 => ?_
      refine c_seq fun K12 hK12 => ?_
      refine c_region ?_
      have hgsz := E.size
      refine sv (o_mv rfl) rfl ?_
      refine sv (o_len Try.underlying30 rfl) rfl ?_
      refine sv (o_mv rfl) rfl ?_
      refine l_nil ?_
      refine e_K (hK12 _ _ _ _ ?_)
      refine c_block ?_
      refine c_loop (σ := Nat × Value × Value) (fun ⟨k, v8, v9⟩ => [(1, .slice ad2 rks.length c2), (5, .pointer (some ⟨g, 0, none⟩)), (7, .bool true), (8, v8), (9, v9), (35, .slice adr (bm cs).length cr), (36, .int .i64 (bm cs).length), (37, .int .i64 (k : Int))]) (fun ⟨k, v8, v9⟩ w1 => k ≤ (bm cs).length ∧ Two 9 44 wG.heap.size w1 v8 v9 ((bm cs).keys.take k) (incR k) ∧ Mod [] w w1 ∧ Mod [] wG w1) (fun ⟨k, v8, v9⟩ => (bm cs).length - k) (⟨0, .slice none 0 0, .slice none 0 0⟩) ⟨rfl, rfl, rfl, rfl, rfl, rfl, rfl, rfl, trivial⟩ (⟨by omega, Two.nil, E, Eg⟩) ?_
      rintro ⟨k, v8, v9⟩ w6 ⟨hk, T2, E, Eg⟩
      refine c_seq fun K13 hK13 => ?_
      refine c_region ?_
      refine sv (o_lss rfl rfl) rfl ?_
      refine l_nil ?_
      refine e_K (hK13 _ _ _ _ ?_)
      refine c_seq fun K14 hK14 => ?_
      refine c_if rfl (fun h38 => ?_) (fun h38 => ?_)
      · skip
        have hlt : k < (bm cs).length := by omega
        obtain ⟨x, hx_x⟩ : ∃ x, ((bm cs))[k]? = some x := ⟨_, List.getElem?_eq_getElem (by omega)⟩
        obtain ⟨a_x, u_x, ha_x, hcs_x, R_x⟩ := ndD_at RV0 hx_x
        replace hcs_x := hcs_x.mod0 Eg
        obtain rfl := ha_x
        obtain ⟨a1_x, c1_x, rfl, h1_x, h2_x⟩ := flat_len R_x
        have hkx : (bm cs).keys[k]? = some x.1 := by simp [Gm.keys, hx_x]
        have Ek := Mod.refl [] w6
        refine c_skip ?_
        refine e_K (hK14 _ _ _ _ ?_)
        refine c_seq fun K15 hK15 => ?_
        refine c_block ?_
        refine c_seq fun K16 hK16 => ?_
        refine c_region ?_
        refine sv (o_mv rfl) rfl ?_
        refine sv (o_ix sl30 rfl rfl (by omega)) rfl ?_
        refine sv (o_lda ag42 rfl rfl hcs_x) rfl ?_
        refine s_alloc zv42 rfl fun g1 w7 N1 => ?_
        have Lg1_E := N1.le E
        have Lg1_Eg := N1.le Eg
        have Lg1_Ek := N1.le Ek
        replace E := E.then N1.mod
        replace Eg := Eg.then N1.mod
        replace Ek := Ek.then N1.mod
        have Bg1 := N1.blk
        refine sv (o_as rfl) rfl ?_
        refine s_sta (vs := [_, _]) ag42 Bg1 rfl rfl rfl (by simp [Value.oneCell']) (by simp) fun w8 P8 => ?_
        replace E := E.own P8.mod Lg1_E
        replace Eg := Eg.own P8.mod Lg1_Eg
        replace Ek := Ek.own P8.mod Lg1_Ek
        replace Bg1 : Blk w8 g1 _ [_, _] := P8.blk
        refine l_nil ?_
        refine e_K (hK16 _ _ _ _ ?_)
        refine c_seq fun K17 hK17 => ?_
        refine c_region ?_
        refine sv (o_mv rfl) rfl ?_
        refine sv (o_fa0 fd42_0 rfl) rfl ?_
        refine sv (o_ld sc9 rfl (Bg1.cell rfl)) rfl ?_
        refine s_bslice (cs := [_]) sl23 zv9 rfl rfl rfl (by decide) rfl fun g2 w9 N2 => ?_
        have Lg2_E := N2.le E
        have Lg2_Eg := N2.le Eg
        have Lg2_Ek := N2.le Ek
        have Dg1_g2 := N2.ne Bg1
        replace Bg1 := Bg1.mod0 N2.mod
        replace E := E.then N2.mod
        replace Eg := Eg.then N2.mod
        replace Ek := Ek.then N2.mod
        have Bg2 := N2.blk
        have T3 := T2.mod0 Ek
        have hgs := Eg.size
        have hes := E.size
        have hkl : ((bm cs).keys.take k).length = k := by simp [Gm.keys]; omega
        refine s_append sl23 rfl rfl T3.o8 (Src.own Try.underlying23 (Own.all (sz := 1) (c := 1) (cs := [_]) Bg2 rfl (by omega)) (by simp [Value.oneCell'])) (by decide) (by omega) (by omega) rfl fun u8 w10 A8 => ?_
        have T4 := T3.app8 (s := x.1) A8 (by simp) hgs
        replace E := E.trans' A8.mod (fun y hy => .inr (by have := T3.g8 y hy; omega))
        replace Eg := Eg.trans' A8.mod (fun y hy => .inr (T3.g8 y hy))
        clear T2 T3 Ek
        have E4 := Mod.refl [] w10
        refine sv (o_as rfl) rfl ?_
        refine l_nil ?_
        refine e_K (hK17 _ _ _ _ ?_)
        refine c_region ?_
        refine sv (o_mv rfl) rfl ?_
        refine sv (o_mv rfl) rfl ?_
        refine sv (o_build (cs := [_, _, _]) pl44 zv44 rfl rfl) rfl ?_
        refine s_bslice (cs := [_, _, _]) sl24 zv44 rfl rfl rfl (by decide) rfl fun g3 w11 N3 => ?_
        have Lg3_E := N3.le E
        have Lg3_Eg := N3.le Eg
        have Lg3_E4 := N3.le E4
        replace E := E.then N3.mod
        replace Eg := Eg.then N3.mod
        replace E4 := E4.then N3.mod
        have Bg3 := N3.blk
        have T5 := T4.mod0 E4
        have hgs2 := Eg.size
        have hil := incR_len k
        refine s_append sl24 rfl rfl T5.o9 (Src.own Try.underlying24 (Own.all (sz := 3) (c := 1) (cs := [_, _, _]) Bg3 rfl (by omega)) (by simp [Value.oneCell'])) (by decide) (by omega) (by omega) rfl fun u9 w12 A9 => ?_
        have T6 := T5.app9 (r := ⟨(k : Int), 0, []⟩) A9 (by simp) hgs2
        replace E := E.trans' A9.mod (fun y hy => .inr (by have := T5.g9 y hy; omega))
        replace Eg := Eg.trans' A9.mod (fun y hy => .inr (T5.g9 y hy))
        refine sv (o_as rfl) rfl ?_
        refine l_nil ?_
        refine e_in (by simp) ?_
        refine e_K (hK15 _ _ _ _ ?_)
        refine c_region ?_
        refine sv (o_addN rfl rfl (by omega)) rfl ?_
        refine sv (o_mv rfl) rfl ?_
        refine l_nil ?_
        exact e_round (σ := Nat × Value × Value) (s := ⟨k, v8, v9⟩) (⟨k + 1, u8, u9⟩) ⟨rfl, rfl, rfl, rfl, rfl, rfl, rfl, rfl, trivial⟩ ⟨by omega, by rw [take_succ_snoc hkx, incR_succ]; exact T6, E, Eg⟩ (by first | omega | (dsimp only; omega))
      · skip
        have hke : k = (bm cs).length := by omega
        subst hke
        have hkl : (bm cs).keys.length = (bm cs).length := by simp [Gm.keys]
        have hkk : (bm cs).keys.take (bm cs).length = (bm cs).keys := List.take_of_length_le (by omega)
        rw [hkk] at T2
        replace G := G.mod0 Eg
        obtain ⟨ad8, c8, rfl, h81, h82⟩ := Own.form T2.o8
        obtain ⟨ad9, c9, rfl, h91, h92⟩ := Own.form T2.o9
        have R8 := OwnS.rep [] T2.o8 (by simp)
        have R9 : Rep [] w6 (rksD (incR (bm cs).length)) (.slice ad9 (incR (bm cs).length).length c9) := Own.flat T2.o9 (fun _ _ => rfl) (fun x _ c hc => by simp at hc; rcases hc with rfl | rfl | rfl <;> rfl) rfl (by simp)
        clear Eg
        obtain ⟨wR, hwR⟩ : ∃ x, x = w6 := ⟨_, rfl⟩
        subst hwR
        have Er := Mod.refl [] wR
        refine c_exit ?_
        refine e_then (by simp) ?_
        refine e_then (by simp) ?_
        refine e_hit ?_
        refine e_K (hK11 _ _ _ _ ?_)
        refine c_seq fun K18 hK18 => ?_
        refine c_block ?_
        refine c_loop (σ := Nat × Value) (fun ⟨j, v⟩ => [(1, v), (5, .pointer (some ⟨g, 0, none⟩)), (7, .bool true), (8, .slice ad8 (bm cs).keys.length c8), (9, .slice ad9 (incR (bm cs).length).length c9)]) (fun ⟨j, v⟩ w1 => j ≤ (bm cs).length - rks.length ∧ Rep [] w1 (rksD (rks ++ List.replicate j (⟨0, 0, []⟩ : Rk))) v ∧ Mod [] w w1 ∧ Mod [] wR w1) (fun ⟨j, v⟩ => (bm cs).length - rks.length - j) (⟨0, .slice ad2 rks.length c2⟩) ⟨rfl, rfl, rfl, rfl, rfl, trivial⟩ (⟨by omega, by simpa using R2.to0 E, E, Er⟩) ?_
        rintro ⟨j, v⟩ w13 ⟨hj, RP, E, Er⟩
        obtain ⟨adp, cp, rfl, hp1, hp2⟩ := flat_len RP
        have hpl : (rks ++ List.replicate j (⟨0, 0, []⟩ : Rk)).length = rks.length + j := by simp
        refine c_seq fun K19 hK19 => ?_
        refine c_seq fun K20 hK20 => ?_
        refine c_region ?_
        refine sv (o_mv rfl) rfl ?_
        refine sv (o_len Try.underlying24 rfl) rfl ?_
        refine sv (o_mv rfl) rfl ?_
        refine sv (o_len Try.underlying23 rfl) rfl ?_
        refine sv (o_lss rfl rfl) rfl ?_
        refine l_nil ?_
        refine e_K (hK20 _ _ _ _ ?_)
        refine c_if rfl (fun h57 => ?_) (fun h57 => ?_)
        · skip
          have hltp : (rks ++ List.replicate j (⟨0, 0, []⟩ : Rk)).length < (bm cs).keys.length := by omega
          have Ek := Mod.refl [] w13
          refine c_skip ?_
          refine e_K (hK19 _ _ _ _ ?_)
          refine c_block ?_
          refine c_region ?_
          refine sv (o_mv rfl) rfl ?_
          refine sv (o_mv rfl) rfl ?_
          refine sv (o_len Try.underlying24 rfl) rfl ?_
          refine sv (o_mv rfl) rfl ?_
          refine sv (o_len Try.underlying24 rfl) rfl ?_
          refine sv (o_sl3 sl24 rfl rfl rfl hp1) rfl ?_
          refine sv (o_build (cs := [_, _, _]) pl44 zv44 rfl rfl) rfl ?_
          refine s_bslice (cs := [_, _, _]) sl24 zv44 rfl rfl rfl (by decide) rfl fun g4 w14 N4 => ?_
          have Lg4_E := N4.le E
          have Lg4_Er := N4.le Er
          have Lg4_Ek := N4.le Ek
          replace E := E.then N4.mod
          replace Er := Er.then N4.mod
          replace Ek := Ek.then N4.mod
          have Bg4 := N4.blk
          have RF : Rep [] w14 (rksD (rks ++ List.replicate j (⟨0, 0, []⟩ : Rk))) (.slice adp (rks ++ List.replicate j (⟨0, 0, []⟩ : Rk)).length (rks ++ List.replicate j (⟨0, 0, []⟩ : Rk)).length) := Rep.full (RP.to0 Ek)
          refine s_appfull sl24 rfl rfl (Src.flat Try.underlying24 RF) (Src.own Try.underlying24 (Own.all (sz := 3) (c := 1) (cs := [_, _, _]) Bg4 rfl (by omega)) (by simp [Value.oneCell'])) (by omega) (by omega) (by omega) rfl fun up w15 OP LP MP => ?_
          have hL : rks ++ List.replicate (j + 1) (⟨0, 0, []⟩ : Rk) = (rks ++ List.replicate j (⟨0, 0, []⟩ : Rk)) ++ [(⟨0, 0, []⟩ : Rk)] := by rw [List.replicate_succ', List.append_assoc]
          have RP2 : Rep [] w15 (rksD (rks ++ List.replicate (j + 1) (⟨0, 0, []⟩ : Rk))) up := by
            rw [hL]
            exact Own.flat (cells := Rk.cells) (OP.same (m := ((rks ++ List.replicate j (⟨0, 0, []⟩ : Rk)) ++ [(⟨0, 0, []⟩ : Rk)]).length) (us := (((rks ++ List.replicate j (⟨0, 0, []⟩ : Rk)) ++ [(⟨0, 0, []⟩ : Rk)]).map Rk.cells).flatten) (by simp <;> omega) (by simp)) (fun _ _ => rfl) (fun x _ c hc => by simp at hc; rcases hc with rfl | rfl | rfl <;> rfl) rfl (by simp)
          replace E := E.then MP
          replace Er := Er.then MP
          clear Ek
          refine sv (o_as rfl) rfl ?_
          refine l_nil ?_
          refine e_in (by simp) ?_
          exact e_round (σ := Nat × Value) (s := ⟨j, .slice adp (rks ++ List.replicate j (⟨0, 0, []⟩ : Rk)).length cp⟩) (⟨j + 1, up⟩) ⟨rfl, rfl, rfl, rfl, rfl, trivial⟩ ⟨by omega, RP2, E, Er⟩ (by first | omega | (dsimp only; omega))
        · skip
          have hge : (bm cs).length ≤ (rks ++ List.replicate j (⟨0, 0, []⟩ : Rk)).length := by omega
          have RT : Rep [] w13 (rksD ((rks ++ List.replicate j (⟨0, 0, []⟩ : Rk)).take (bm cs).keys.length)) (.slice adp (bm cs).keys.length cp) := by
            have h8 := Rep.top RP (k := (bm cs).keys.length) (by rw [List.length_map]; omega)
            rw [← List.map_take] at h8
            exact h8
          obtain ⟨rk, hrk⟩ : ∃ z : List Rk, z = (rks ++ List.replicate j (⟨0, 0, []⟩ : Rk)).take (bm cs).keys.length := ⟨_, rfl⟩
          rw [← hrk] at RT
          have hrl : rk.length = (bm cs).length := by rw [hrk, List.length_take]; omega
          have hol : (ordG (bm cs) (bm cs).keys rk).1.length = (bm cs).keys.length := ordG_len W hrl
          have Ek := Mod.refl [] w13
          refine c_exit ?_
          refine e_then (by simp) ?_
          refine e_then (by simp) ?_
          refine e_hit ?_
          refine e_K (hK18 _ _ _ _ ?_)
          refine c_seq fun K21 hK21 => ?_
          refine c_region ?_
          refine sv (o_mv rfl) rfl ?_
          refine sv (o_mv rfl) rfl ?_
          refine sv (o_mv rfl) rfl ?_
          refine sv (o_mv rfl) rfl ?_
          refine sv (o_len Try.underlying23 rfl) rfl ?_
          refine sv (o_slto sl24 rfl rfl (by omega) hp1) rfl ?_
          refine sc (o_call ent13 rfl) (c_order [] _ g bA bB (bm cs) (G.mod0 Er) (bm cs).keys _ (R8.to0 Er) rk _ (RT.to0 Ek) (by omega)) rfl fun v_ w16 h_ => ?_
          obtain ⟨vo, rfl, OO, LO, E_⟩ := h_
          replace E := E.then E_
          replace Er := Er.then E_
          replace Ek := Ek.then E_
          obtain ⟨ado, co, rfl, ho1, ho2⟩ := Own.form OO
          have RO := OwnS.rep [] OO (by simp)
          replace G := G.mod0 Er
          replace R8 := R8.to0 Er
          replace R9 := R9.to0 Er
          clear Er Ek
          obtain ⟨wO, hwO⟩ : ∃ x, x = w16 := ⟨_, rfl⟩
          subst hwO
          have Eo := Mod.refl [] wO
          refine sv (o_mv rfl) rfl ?_
          refine sv (o_ext rfl rfl) rfl ?_
          refine sv (o_ext rfl rfl) rfl ?_
          refine sv (o_as rfl) rfl ?_
          refine sv (o_as rfl) rfl ?_
          refine l_nil ?_
          refine e_K (hK21 _ _ _ _ ?_)
          refine c_seq fun K22 hK22 => ?_
          refine c_seq fun K23 hK23 => ?_
          refine c_region ?_
          refine sv (o_mv rfl) rfl ?_
          refine sv ((o_not rfl).to (v' := .bool false) rfl) rfl ?_
          refine sv (o_mv rfl) rfl ?_
          refine sg rfl (rfl) (o_mv rfl) rfl ?_
          refine sg rfl (rfl) ((o_neq rfl rfl).to (v' := .bool false) (by rw [ordG_all W hrl]; simp)) rfl ?_
          refine sv (o_pickF (rfl) rfl rfl) rfl ?_
          refine sv (o_mv rfl) rfl ?_
          refine sg rfl (rfl) (o_mv rfl) rfl ?_
          refine sg rfl (rfl) (o_len Try.underlying23 rfl) rfl ?_
          refine sg rfl (rfl) (o_mv rfl) rfl ?_
          refine sg rfl (rfl) (o_len Try.underlying23 rfl) rfl ?_
          refine sg rfl (rfl) ((o_neq rfl rfl).to (v' := .bool false) (by rw [hol]; simp)) rfl ?_
          refine sv (o_pickF (rfl) rfl rfl) rfl ?_
          refine l_nil ?_
          refine e_K (hK23 _ _ _ _ ?_)
          refine c_false rfl ?_
          refine c_skip ?_
          refine e_K (hK22 _ _ _ _ ?_)
          refine c_seq fun K24 hK24 => ?_
          refine c_seq fun K25 hK25 => ?_
          refine c_region ?_
          refine sv (o_mv rfl) rfl ?_
          refine sv (o_len Try.underlying23 rfl) rfl ?_
          refine sv (o_mv rfl) rfl ?_
          refine l_nil ?_
          refine e_K (hK25 _ _ _ _ ?_)
          refine c_block ?_
          refine c_loop (σ := Nat) (fun i => [(5, .pointer (some ⟨g, 0, none⟩)), (8, .slice ad8 (bm cs).keys.length c8), (9, .slice ad9 (incR (bm cs).length).length c9), (12, .slice ado (ordG (bm cs) (bm cs).keys rk).1.length co), (90, .slice ado (ordG (bm cs) (bm cs).keys rk).1.length co), (91, .int .i64 (ordG (bm cs) (bm cs).keys rk).1.length), (92, .int .i64 (i : Int))]) (fun i w1 => i ≤ (ordG (bm cs) (bm cs).keys rk).1.length ∧ Mod [] w w1 ∧ Mod [] wO w1) (fun i => (ordG (bm cs) (bm cs).keys rk).1.length - i) (0) ⟨rfl, rfl, rfl, rfl, rfl, rfl, rfl, trivial⟩ (⟨by omega, E, Eo⟩) ?_
          rintro i w17 ⟨hi, E, Eo⟩
          refine c_seq fun K26 hK26 => ?_
          refine c_region ?_
          refine sv (o_lss rfl rfl) rfl ?_
          refine l_nil ?_
          refine e_K (hK26 _ _ _ _ ?_)
          refine c_seq fun K27 hK27 => ?_
          refine c_if rfl (fun h93 => ?_) (fun h93 => ?_)
          · skip
            have hlt : i < (ordG (bm cs) (bm cs).keys rk).1.length := by omega
            obtain ⟨x, hx_x⟩ : ∃ x, ((ordG (bm cs) (bm cs).keys rk).1)[i]? = some x := ⟨_, List.getElem?_eq_getElem (by omega)⟩
            obtain ⟨a_x, ha_x, hcs_x, _⟩ := flat_at (RO.to0 Eo) hx_x
            obtain rfl := ha_x
            refine c_skip ?_
            refine e_K (hK27 _ _ _ _ ?_)
            refine c_seq fun K28 hK28 => ?_
            refine c_block ?_
            refine c_seq fun K29 hK29 => ?_
            refine c_region ?_
            refine sv (o_mv rfl) rfl ?_
            refine sv (o_ix sl23 rfl rfl (by omega)) rfl ?_
            refine sv (o_ld sc9 rfl hcs_x.c0) rfl ?_
            refine sv (o_as rfl) rfl ?_
            refine sv (o_as rfl) rfl ?_
            refine l_nil ?_
            refine e_K (hK29 _ _ _ _ ?_)
            refine c_seq fun K30 hK30 => ?_
            refine c_region ?_
            refine sv (o_mv rfl) rfl ?_
            refine sv (o_mv rfl) rfl ?_
            refine s_bslice (cs := [_]) sl23 zv9 rfl rfl rfl (by decide) rfl fun g5 w18 N5 => ?_
            have Lg5_E := N5.le E
            have Lg5_Eo := N5.le Eo
            replace E := E.then N5.mod
            replace Eo := Eo.then N5.mod
            have Bg5 := N5.blk
            refine sc (o_call ent16 rfl) (c_Past [] _ g bA bB _ (G.mod0 Eo) [x] _ (OwnS.rep [] (OwnS.to (l' := [x]) (Own.all (sz := 1) (c := 1) (cs := [_]) Bg5 rfl (by omega)) rfl rfl) (by simp [ob])) (by simp)) rfl fun v_ w19 h_ => ?_
            obtain ⟨O5, L5, E_⟩ := h_
            replace Bg5 := Bg5.mod0 E_
            replace E := E.then E_
            replace Eo := Eo.then E_
            obtain ⟨ad5, c5, rfl, h51, h52⟩ := Own.form O5
            have RP5 := OwnS.rep [] O5 (by simp)
            obtain ⟨wP, hwP⟩ : ∃ x, x = w19 := ⟨_, rfl⟩
            subst hwP
            have Ep := Mod.refl [] wP
            refine sv (o_as rfl) rfl ?_
            refine l_nil ?_
            refine e_K (hK30 _ _ _ _ ?_)
            refine c_seq fun K31 hK31 => ?_
            refine c_region ?_
            refine sv (o_mv rfl) rfl ?_
            refine sv (o_mv rfl) rfl ?_
            refine sv (o_addE (r := ((i + 1 : Nat) : Int)) rfl rfl (by rw [wrap64_in _ (by omega)]; omega)) rfl ?_
            obtain ⟨ads, hads⟩ : ∃ z, z = adS (some a_x) co (i + 1) 1 := ⟨_, rfl⟩
            refine sv ((o_slfrom sl23 rfl rfl (by omega) ho1).to (v' := .slice ads ((ordG (bm cs) (bm cs).keys rk).1.length - (i + 1)) (co - (i + 1))) (by rw [hads])) rfl ?_
            refine sv (o_len Try.underlying23 rfl) rfl ?_
            refine sv (o_mv rfl) rfl ?_
            refine l_nil ?_
            refine e_K (hK31 _ _ _ _ ?_)
            refine c_block ?_
            refine c_loop (σ := Nat) (fun j => [(5, .pointer (some ⟨g, 0, none⟩)), (8, .slice ad8 (bm cs).keys.length c8), (9, .slice ad9 (incR (bm cs).length).length c9), (12, .slice (some a_x) (ordG (bm cs) (bm cs).keys rk).1.length co), (15, S x), (16, .slice ad5 (past (bm cs) [x]).length c5), (90, .slice (some a_x) (ordG (bm cs) (bm cs).keys rk).1.length co), (91, .int .i64 (ordG (bm cs) (bm cs).keys rk).1.length), (92, .int .i64 (i : Int)), (104, .slice ads ((ordG (bm cs) (bm cs).keys rk).1.length - (i + 1)) (co - (i + 1))), (105, .int .i64 (((ordG (bm cs) (bm cs).keys rk).1.length - (i + 1) : Nat) : Int)), (106, .int .i64 (j : Int))]) (fun j w1 => j ≤ (ordG (bm cs) (bm cs).keys rk).1.length - (i + 1) ∧ Mod [] w w1 ∧ Mod [] wO w1 ∧ Mod [] wP w1) (fun j => (ordG (bm cs) (bm cs).keys rk).1.length - (i + 1) - j) (0) ⟨rfl, rfl, rfl, rfl, rfl, rfl, rfl, rfl, rfl, rfl, rfl, rfl, trivial⟩ (⟨by omega, E, Eo, Ep⟩) ?_
            rintro j w20 ⟨hj, E, Eo, Ep⟩
            refine c_seq fun K32 hK32 => ?_
            refine c_region ?_
            refine sv (o_lss rfl rfl) rfl ?_
            refine l_nil ?_
            refine e_K (hK32 _ _ _ _ ?_)
            refine c_seq fun K33 hK33 => ?_
            refine c_if rfl (fun h107 => ?_) (fun h107 => ?_)
            · skip
              have hlt2 : j < (ordG (bm cs) (bm cs).keys rk).1.length - (i + 1) := by omega
              obtain ⟨y, hx_y⟩ : ∃ y, (ordG (bm cs) (bm cs).keys rk).1[i + 1 + j]? = some y := ⟨_, List.getElem?_eq_getElem (by omega)⟩
              obtain ⟨a_y, ha_y, hcs_y, _⟩ := flat_at (RO.to0 Eo) hx_y
              injection ha_y with ha_y
              subst ha_y
              have hA2 : ads = some (a_x.add ((i + 1) * 1)) := by rw [hads]; unfold adS; rw [if_neg (by omega)]; rfl
              subst hA2
              rw [show (a_x.add ((i + 1 + j) * 1)) = (a_x.add ((i + 1) * 1)).add (j * 1) by rw [Addr.add_add, ← Nat.add_mul]] at hcs_y
              have hgood := ordG_good W hrl hx_x hx_y (by omega)
              refine c_skip ?_
              refine e_K (hK33 _ _ _ _ ?_)
              refine c_seq fun K34 hK34 => ?_
              refine c_block ?_
              refine c_seq fun K35 hK35 => ?_
              refine c_region ?_
              refine sv (o_ix sl23 rfl rfl (by omega)) rfl ?_
              refine sv (o_ld sc9 rfl hcs_y.c0) rfl ?_
              refine sv (o_as rfl) rfl ?_
              refine l_nil ?_
              refine e_K (hK35 _ _ _ _ ?_)
              refine c_seq fun K36 hK36 => ?_
              refine c_region ?_
              refine sv (o_mv rfl) rfl ?_
              refine sv (o_mv rfl) rfl ?_
              refine sv ((o_seq rfl rfl).to (v' := .bool false) (by rw [decide_eq_false hgood.1])) rfl ?_
              refine sv (o_mv rfl) rfl ?_
              refine sg rfl (rfl) (o_mv rfl) rfl ?_
              refine sg rfl (rfl) (o_mv rfl) rfl ?_
              refine sgc rfl (rfl) (o_call ent18 rfl) (g_in _ (past (bm cs) [x]) _ (RP5.to0 Ep) y) rfl fun v_ w21 h_ => ?_
              obtain ⟨h116, E_⟩ := h_
              replace E := E.then E_
              replace Eo := Eo.then E_
              replace Ep := Ep.then E_
              obtain rfl : v_ = .bool false := h116.trans (by rw [decide_eq_false hgood.2])
              refine sv (o_pickF (rfl) rfl rfl) rfl ?_
              refine l_nil ?_
              refine e_K (hK36 _ _ _ _ ?_)
              refine c_false rfl ?_
              refine c_skip ?_
              refine e_in (by simp) ?_
              refine e_K (hK34 _ _ _ _ ?_)
              refine c_region ?_
              refine sv (o_addN rfl rfl (by omega)) rfl ?_
              refine sv (o_mv rfl) rfl ?_
              refine l_nil ?_
              exact e_round (σ := Nat) (s := j) (j + 1) ⟨rfl, rfl, rfl, rfl, rfl, rfl, rfl, rfl, rfl, rfl, rfl, rfl, trivial⟩ ⟨by omega, E, Eo, Ep⟩ (by first | omega | (dsimp only; omega))
            · skip
              refine c_exit ?_
              refine e_then (by simp) ?_
              refine e_then (by simp) ?_
              refine e_hit ?_
              refine e_in (by simp) ?_
              refine e_K (hK28 _ _ _ _ ?_)
              refine c_region ?_
              refine sv (o_addN rfl rfl (by omega)) rfl ?_
              refine sv (o_mv rfl) rfl ?_
              refine l_nil ?_
              exact e_round (σ := Nat) (s := i) (i + 1) ⟨rfl, rfl, rfl, rfl, rfl, rfl, rfl, trivial⟩ ⟨by omega, E, Eo⟩ (by first | omega | (dsimp only; omega))
          · skip
            refine c_exit ?_
            refine e_then (by simp) ?_
            refine e_then (by simp) ?_
            refine e_hit ?_
            refine e_K (hK24 _ _ _ _ ?_)
            refine c_seq fun K37 hK37 => ?_
            refine c_region ?_
            refine sv (o_mv rfl) rfl ?_
            refine sv (o_mv rfl) rfl ?_
            refine sv (o_mv rfl) rfl ?_
            refine sc (o_call ent13 rfl) (c_order [] _ g bA bB (bm cs) (G.mod0 Eo) (bm cs).keys _ (R8.to0 Eo) (incR (bm cs).length) _ (R9.to0 Eo) (by omega)) rfl fun v_ w22 h_ => ?_
            obtain ⟨vo2, rfl, OO2, LO2, E_⟩ := h_
            replace E := E.then E_
            replace Eo := Eo.then E_
            refine sv (o_mv rfl) rfl ?_
            refine sv (o_ext rfl rfl) rfl ?_
            refine sv (o_ext rfl rfl) rfl ?_
            refine sv (o_as rfl) rfl ?_
            refine sv (o_as rfl) rfl ?_
            refine l_nil ?_
            refine e_K (hK37 _ _ _ _ ?_)
            refine c_seq fun K38 hK38 => ?_
            refine c_region ?_
            refine sv (o_mv rfl) rfl ?_
            refine sv ((o_eql rfl rfl).to (v' := .bool true) (by rw [ordG_inc W]; simp)) rfl ?_
            refine sv (o_mv rfl) rfl ?_
            refine sg rfl (rfl) (o_mv rfl) rfl ?_
            refine sg rfl (rfl) (o_mv rfl) rfl ?_
            refine sgc rfl (rfl) (o_call ent15 rfl) (g_same _ (ordG (bm cs) (bm cs).keys (incR (bm cs).length)).1 (bm cs).keys _ _ (OwnS.rep [] OO2 (by simp)) (R8.to0 Eo)) rfl fun v_ w23 h_ => ?_
            obtain ⟨h132, E_⟩ := h_
            replace E := E.then E_
            replace Eo := Eo.then E_
            obtain rfl : v_ = .bool true := h132.trans (by rw [ordG_inc W]; simp)
            refine sv (o_pickT (rfl) rfl rfl) rfl ?_
            refine sv (o_as rfl) rfl ?_
            refine l_nil ?_
            refine e_K (hK38 _ _ _ _ ?_)
            refine c_ret ?_
            exact ret1 rfl rfl ⟨rfl, E⟩
end Go.Proofs.Ythmohmpalbnjoaa.V
