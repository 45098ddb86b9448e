/-
  A part of the proof: bytes that grow behind one another while a JSON value is read: what is kept from step to step. No condition of its own.
-/
import Derived.Test.YtkhbnhdlelmbnaaDoorM4
set_option linter.unusedVariables false
set_option linter.unusedSimpArgs false
set_option maxRecDepth 10000
namespace Go.Proofs.YtkhbnhdlelmbnaaDoor.V
open Go Go.Proofs
theorem ent68 : Ent Tryd.prog 68 := Ent.of Tryd.func68 (by kernel_rfl) (by kernel_rfl)
theorem sl45 : slB Tryd.prog 45 5 1 1 = true := by kernel_rfl
theorem zv5 : zvB Tryd.prog 5 ([.int .u8 0]) := by unfold zvB; kernel_rfl
theorem c_put8 (w : World) (s : Str) (hs : s.length ≤ 65536) : Calls Tryd.prog 76 [S s].toArray w (Ret fun u w' => u = .tuple #[S (if validR s then putQ s else []), .bool (validR s)] ∧ Mod [] w w') := by
  refine enter Tryd.func76 rfl rfl rfl (l := [(0, _)]) ⟨rfl, trivial⟩ ?_
  have E := Mod.refl [] w
  refine c_seq fun K1 hK1 => ?_
  refine c_region ?_
  refine sv (o_as rfl) rfl ?_
  refine sv (o_as rfl) rfl ?_
  refine l_nil ?_
  refine e_K (hK1 _ _ _ _ ?_)
  refine c_seq fun K2 hK2 => ?_
  refine c_seq fun K3 hK3 => ?_
  refine c_region ?_
  refine sv (o_mv rfl) rfl ?_
  refine sc (o_call ent68 rfl) (c_valid8 _ _) rfl fun v_ w1 h_ => ?_
  obtain ⟨rfl, E_⟩ := h_
  replace E := E.then E_
  refine sv (o_not rfl) rfl ?_
  refine l_nil ?_
  refine e_K (hK3 _ _ _ _ ?_)
  refine c_cond rfl (fun h10 => ?_) (fun h10 => ?_)
  · skip
    have hval : validR s = false := by simpa using h10
    refine c_seq fun K4 hK4 => ?_
    refine c_region ?_
    refine sv (o_as rfl) rfl ?_
    refine sv (o_as rfl) rfl ?_
    refine l_nil ?_
    refine e_K (hK4 _ _ _ _ ?_)
    refine c_ret ?_
    refine e_then (by simp) ?_
    exact ret2 rfl rfl rfl ⟨by rw [hval]; rfl, E⟩
  · skip
    have hval : validR s = true := by simpa using h10
    refine c_skip ?_
    refine e_K (hK2 _ _ _ _ ?_)
    refine c_seq fun K5 hK5 => ?_
    refine c_region ?_
    refine sv (o_as rfl) rfl ?_
    refine l_nil ?_
    refine e_K (hK5 _ _ _ _ ?_)
    refine c_seq fun K6 hK6 => ?_
    refine c_region ?_
    refine s_bslice (cs := [_]) sl45 zv5 rfl rfl rfl (by decide) rfl fun g1 w2 N1 => ?_
    have Lg1_E := N1.le E
    replace E := E.then N1.mod
    have Bg1 := N1.blk
    refine sv (o_as rfl) rfl ?_
    refine l_nil ?_
    refine e_K (hK6 _ _ _ _ ?_)
    refine c_seq fun K7 hK7 => ?_
    refine c_seq fun K8 hK8 => ?_
    refine c_region ?_
    refine sv (o_as rfl) rfl ?_
    refine l_nil ?_
    refine e_K (hK8 _ _ _ _ ?_)
    refine c_block ?_
    refine c_loop (σ := Nat × Value) (fun ⟨k, v⟩ => [(0, S s), (4, S hexD), (5, v), (6, .int .i64 (k : Int))]) (fun ⟨k, v⟩ w1 => k ≤ s.length ∧ Own w1 5 1 v ((34 :: escs (s.take k))).length ((((34 :: escs (s.take k))).map b8c).flatten) ∧ (∀ x ∈ ob v, w.heap.size ≤ x) ∧ Mod [] w w1) (fun ⟨k, v⟩ => s.length - k) (⟨0, .slice (some ⟨g1, 0, none⟩) 1 1⟩) ⟨rfl, rfl, rfl, rfl, trivial⟩ (⟨by omega, (Own.all (c := 1) Bg1 rfl (by omega)).same rfl rfl, by simp only [ob, List.mem_singleton]; intro x hx; subst hx; exact Lg1_E, E⟩) ?_
    rintro ⟨k, v⟩ w3 ⟨hk, Oa, L0, E⟩
    refine c_seq fun K9 hK9 => ?_
    refine c_seq fun K10 hK10 => ?_
    refine c_region ?_
    refine sv (o_mv rfl) rfl ?_
    refine sv (o_mv rfl) rfl ?_
    refine sv (o_slen Tryd.underlying9 rfl) rfl ?_
    refine sv (o_lss rfl rfl) rfl ?_
    refine l_nil ?_
    refine e_K (hK10 _ _ _ _ ?_)
    refine c_if rfl (fun h15 => ?_) (fun h15 => ?_)
    · skip
      refine c_skip ?_
      refine e_K (hK9 _ _ _ _ ?_)
      refine c_seq fun K11 hK11 => ?_
      refine c_block ?_
      refine c_seq fun K12 hK12 => ?_
      refine c_region ?_
      refine sv (o_mv rfl) rfl ?_
      refine sv (o_mv rfl) rfl ?_
      refine s_sidx (m := k) Tryd.underlying9 rfl rfl (by omega) (by simp; omega) rfl fun c hc => ?_
      rw [Int.toNat_natCast] at hc
      have hcl := c.toNat_lt
      have hql := escs_len (s.take k)
      have htl : (s.take k).length = k := by rw [List.length_take]; omega
      have hq2 : (34 :: escs (s.take k)).length = (escs (s.take k)).length + 1 := rfl
      refine sv (o_as rfl) rfl ?_
      refine l_nil ?_
      refine e_K (hK12 _ _ _ _ ?_)
      refine c_block ?_
      refine c_seq fun K13 hK13 => ?_
      by_cases hs10_0 : (c.toNat : Int) = 34
      · skip
        refine c_region ?_
        refine sv (o_mv rfl) rfl ?_
        refine sv (o_eql rfl rfl) rfl ?_
        refine sv (o_mv rfl) rfl ?_
        refine sn rfl (fun e_ => absurd ((decide_eq_true hs10_0).symm.trans e_) (by decide)) rfl ?_
        refine sn rfl (fun e_ => absurd ((decide_eq_true hs10_0).symm.trans e_) (by decide)) rfl ?_
        refine sv (o_pickT (decide_eq_true hs10_0) rfl rfl) rfl ?_
        refine sv (o_as rfl) rfl ?_
        refine l_nil ?_
        refine e_K (hK13 _ _ _ _ ?_)
        refine c_true rfl ?_
        refine c_region ?_
        refine sv (o_mv rfl) rfl ?_
        refine sv (o_mv rfl) rfl ?_
        refine s_bslice (cs := [_, _]) sl45 zv5 rfl rfl rfl (by decide) rfl fun g2 w4 N2 => ?_
        have Lg2_E := N2.le E
        have Da0_g2 := N2.own_ne Oa
        replace E := E.then N2.mod
        replace Oa := Oa.mod0 N2.mod
        have Bg2 := N2.blk
        have hesc := escQ1 (c := c) (by omega)
        refine s_append sl45 rfl rfl Oa (Src.own Tryd.underlying45 (Own.all (cs := [_, _]) Bg2 rfl (by omega)) (by simp [Value.oneCell'])) (by decide) (by omega) (by omega) rfl fun v1 w5 A1 => ?_
        have Dv1_g2 := A1.ne Da0_g2 Bg2
        have Lv1_E := A1.ge L0 E
        replace Bg2 := Bg2.mod A1.mod (fun hx => Da0_g2 _ hx rfl)
        replace E := E.trans' A1.mod (fun x hx => .inr (L0 x hx))
        replace Oa := A1.own
        refine sv (o_as rfl) rfl ?_
        refine l_nil ?_
        refine e_in (by simp) ?_
        refine e_in (by simp) ?_
        refine e_K (hK11 _ _ _ _ ?_)
        refine c_region ?_
        refine sv (o_mv rfl) rfl ?_
        refine sv (o_addN rfl rfl (by omega)) rfl ?_
        refine sv (o_as rfl) rfl ?_
        refine l_nil ?_
        exact e_round (σ := Nat × Value) (s := ⟨k, v⟩) (⟨k + 1, v1⟩) ⟨rfl, rfl, rfl, rfl, trivial⟩ ⟨by omega, Oa.same (by rw [escs_succ hc, hesc]; simp) (by rw [escs_succ hc, hesc]; simp [B8]), Lv1_E, E⟩ (by dsimp only; omega)
      · skip
        by_cases hs10_1 : (c.toNat : Int) = 92
        · skip
          refine c_region ?_
          refine sv (o_mv rfl) rfl ?_
          refine sv (o_eql rfl rfl) rfl ?_
          refine sv (o_mv rfl) rfl ?_
          refine sg rfl (decide_eq_false hs10_0) (o_mv rfl) rfl ?_
          refine sg rfl (decide_eq_false hs10_0) (o_eql rfl rfl) rfl ?_
          refine sv (o_pickF (decide_eq_false hs10_0) rfl rfl) rfl ?_
          refine sv (o_as rfl) rfl ?_
          refine l_nil ?_
          refine e_K (hK13 _ _ _ _ ?_)
          refine c_if rfl (fun h25 => ?_) (fun h25 => absurd hs10_1 h25)
          refine c_region ?_
          refine sv (o_mv rfl) rfl ?_
          refine sv (o_mv rfl) rfl ?_
          refine s_bslice (cs := [_, _]) sl45 zv5 rfl rfl rfl (by decide) rfl fun g3 w6 N3 => ?_
          have Lg3_E := N3.le E
          have Da0_g3 := N3.own_ne Oa
          replace E := E.then N3.mod
          replace Oa := Oa.mod0 N3.mod
          have Bg3 := N3.blk
          have hesc := escQ1 (c := c) (by omega)
          refine s_append sl45 rfl rfl Oa (Src.own Tryd.underlying45 (Own.all (cs := [_, _]) Bg3 rfl (by omega)) (by simp [Value.oneCell'])) (by decide) (by omega) (by omega) rfl fun v2 w7 A2 => ?_
          have Dv2_g3 := A2.ne Da0_g3 Bg3
          have Lv2_E := A2.ge L0 E
          replace Bg3 := Bg3.mod A2.mod (fun hx => Da0_g3 _ hx rfl)
          replace E := E.trans' A2.mod (fun x hx => .inr (L0 x hx))
          replace Oa := A2.own
          refine sv (o_as rfl) rfl ?_
          refine l_nil ?_
          refine e_in (by simp) ?_
          refine e_in (by simp) ?_
          refine e_K (hK11 _ _ _ _ ?_)
          refine c_region ?_
          refine sv (o_mv rfl) rfl ?_
          refine sv (o_addN rfl rfl (by omega)) rfl ?_
          refine sv (o_as rfl) rfl ?_
          refine l_nil ?_
          exact e_round (σ := Nat × Value) (s := ⟨k, v⟩) (⟨k + 1, v2⟩) ⟨rfl, rfl, rfl, rfl, trivial⟩ ⟨by omega, Oa.same (by rw [escs_succ hc, hesc]; simp) (by rw [escs_succ hc, hesc]; simp [B8]), Lv2_E, E⟩ (by dsimp only; omega)
        · skip
          refine c_region ?_
          refine sv (o_mv rfl) rfl ?_
          refine sv (o_eql rfl rfl) rfl ?_
          refine sv (o_mv rfl) rfl ?_
          refine sg rfl (decide_eq_false hs10_0) (o_mv rfl) rfl ?_
          refine sg rfl (decide_eq_false hs10_0) (o_eql rfl rfl) rfl ?_
          refine sv (o_pickF (decide_eq_false hs10_0) rfl rfl) rfl ?_
          refine sv (o_as rfl) rfl ?_
          refine l_nil ?_
          refine e_K (hK13 _ _ _ _ ?_)
          refine c_if rfl (fun h25 => absurd h25 hs10_1) (fun h25 => ?_)
          refine c_seq fun K14 hK14 => ?_
          refine c_region ?_
          refine sv (o_mv rfl) rfl ?_
          refine sv (o_eql rfl rfl) rfl ?_
          refine sv (o_as rfl) rfl ?_
          refine l_nil ?_
          refine e_K (hK14 _ _ _ _ ?_)
          refine c_if rfl (fun h36 => ?_) (fun h36 => ?_)
          · skip
            refine c_region ?_
            refine sv (o_mv rfl) rfl ?_
            refine s_bslice (cs := [_, _]) sl45 zv5 rfl rfl rfl (by decide) rfl fun g4 w8 N4 => ?_
            have Lg4_E := N4.le E
            have Da0_g4 := N4.own_ne Oa
            replace E := E.then N4.mod
            replace Oa := Oa.mod0 N4.mod
            have Bg4 := N4.blk
            have hesc := escQ2 h36
            refine s_append sl45 rfl rfl Oa (Src.own Tryd.underlying45 (Own.all (cs := [_, _]) Bg4 rfl (by omega)) (by simp [Value.oneCell'])) (by decide) (by omega) (by omega) rfl fun v3 w9 A3 => ?_
            have Dv3_g4 := A3.ne Da0_g4 Bg4
            have Lv3_E := A3.ge L0 E
            replace Bg4 := Bg4.mod A3.mod (fun hx => Da0_g4 _ hx rfl)
            replace E := E.trans' A3.mod (fun x hx => .inr (L0 x hx))
            replace Oa := A3.own
            refine sv (o_as rfl) rfl ?_
            refine l_nil ?_
            refine e_in (by simp) ?_
            refine e_in (by simp) ?_
            refine e_K (hK11 _ _ _ _ ?_)
            refine c_region ?_
            refine sv (o_mv rfl) rfl ?_
            refine sv (o_addN rfl rfl (by omega)) rfl ?_
            refine sv (o_as rfl) rfl ?_
            refine l_nil ?_
            exact e_round (σ := Nat × Value) (s := ⟨k, v⟩) (⟨k + 1, v3⟩) ⟨rfl, rfl, rfl, rfl, trivial⟩ ⟨by omega, Oa.same (by rw [escs_succ hc, hesc]; simp) (by rw [escs_succ hc, hesc]; simp [B8]), Lv3_E, E⟩ (by dsimp only; omega)
          · skip
            refine c_seq fun K15 hK15 => ?_
            refine c_region ?_
            refine sv (o_mv rfl) rfl ?_
            refine sv (o_eql rfl rfl) rfl ?_
            refine sv (o_as rfl) rfl ?_
            refine l_nil ?_
            refine e_K (hK15 _ _ _ _ ?_)
            refine c_if rfl (fun h42 => ?_) (fun h42 => ?_)
            · skip
              refine c_region ?_
              refine sv (o_mv rfl) rfl ?_
              refine s_bslice (cs := [_, _]) sl45 zv5 rfl rfl rfl (by decide) rfl fun g5 w10 N5 => ?_
              have Lg5_E := N5.le E
              have Da0_g5 := N5.own_ne Oa
              replace E := E.then N5.mod
              replace Oa := Oa.mod0 N5.mod
              have Bg5 := N5.blk
              have hesc := escQ3 h42
              refine s_append sl45 rfl rfl Oa (Src.own Tryd.underlying45 (Own.all (cs := [_, _]) Bg5 rfl (by omega)) (by simp [Value.oneCell'])) (by decide) (by omega) (by omega) rfl fun v4 w11 A4 => ?_
              have Dv4_g5 := A4.ne Da0_g5 Bg5
              have Lv4_E := A4.ge L0 E
              replace Bg5 := Bg5.mod A4.mod (fun hx => Da0_g5 _ hx rfl)
              replace E := E.trans' A4.mod (fun x hx => .inr (L0 x hx))
              replace Oa := A4.own
              refine sv (o_as rfl) rfl ?_
              refine l_nil ?_
              refine e_in (by simp) ?_
              refine e_in (by simp) ?_
              refine e_K (hK11 _ _ _ _ ?_)
              refine c_region ?_
              refine sv (o_mv rfl) rfl ?_
              refine sv (o_addN rfl rfl (by omega)) rfl ?_
              refine sv (o_as rfl) rfl ?_
              refine l_nil ?_
              exact e_round (σ := Nat × Value) (s := ⟨k, v⟩) (⟨k + 1, v4⟩) ⟨rfl, rfl, rfl, rfl, trivial⟩ ⟨by omega, Oa.same (by rw [escs_succ hc, hesc]; simp) (by rw [escs_succ hc, hesc]; simp [B8]), Lv4_E, E⟩ (by dsimp only; omega)
            · skip
              refine c_seq fun K16 hK16 => ?_
              refine c_region ?_
              refine sv (o_mv rfl) rfl ?_
              refine sv (o_eql rfl rfl) rfl ?_
              refine sv (o_as rfl) rfl ?_
              refine l_nil ?_
              refine e_K (hK16 _ _ _ _ ?_)
              refine c_if rfl (fun h48 => ?_) (fun h48 => ?_)
              · skip
                refine c_region ?_
                refine sv (o_mv rfl) rfl ?_
                refine s_bslice (cs := [_, _]) sl45 zv5 rfl rfl rfl (by decide) rfl fun g6 w12 N6 => ?_
                have Lg6_E := N6.le E
                have Da0_g6 := N6.own_ne Oa
                replace E := E.then N6.mod
                replace Oa := Oa.mod0 N6.mod
                have Bg6 := N6.blk
                have hesc := escQ4 h48
                refine s_append sl45 rfl rfl Oa (Src.own Tryd.underlying45 (Own.all (cs := [_, _]) Bg6 rfl (by omega)) (by simp [Value.oneCell'])) (by decide) (by omega) (by omega) rfl fun v5 w13 A5 => ?_
                have Dv5_g6 := A5.ne Da0_g6 Bg6
                have Lv5_E := A5.ge L0 E
                replace Bg6 := Bg6.mod A5.mod (fun hx => Da0_g6 _ hx rfl)
                replace E := E.trans' A5.mod (fun x hx => .inr (L0 x hx))
                replace Oa := A5.own
                refine sv (o_as rfl) rfl ?_
                refine l_nil ?_
                refine e_in (by simp) ?_
                refine e_in (by simp) ?_
                refine e_K (hK11 _ _ _ _ ?_)
                refine c_region ?_
                refine sv (o_mv rfl) rfl ?_
                refine sv (o_addN rfl rfl (by omega)) rfl ?_
                refine sv (o_as rfl) rfl ?_
                refine l_nil ?_
                exact e_round (σ := Nat × Value) (s := ⟨k, v⟩) (⟨k + 1, v5⟩) ⟨rfl, rfl, rfl, rfl, trivial⟩ ⟨by omega, Oa.same (by rw [escs_succ hc, hesc]; simp) (by rw [escs_succ hc, hesc]; simp [B8]), Lv5_E, E⟩ (by dsimp only; omega)
              · skip
                refine c_seq fun K17 hK17 => ?_
                refine c_region ?_
                refine sv (o_mv rfl) rfl ?_
                refine sv (o_eql rfl rfl) rfl ?_
                refine sv (o_as rfl) rfl ?_
                refine l_nil ?_
                refine e_K (hK17 _ _ _ _ ?_)
                refine c_if rfl (fun h54 => ?_) (fun h54 => ?_)
                · skip
                  refine c_region ?_
                  refine sv (o_mv rfl) rfl ?_
                  refine s_bslice (cs := [_, _]) sl45 zv5 rfl rfl rfl (by decide) rfl fun g7 w14 N7 => ?_
                  have Lg7_E := N7.le E
                  have Da0_g7 := N7.own_ne Oa
                  replace E := E.then N7.mod
                  replace Oa := Oa.mod0 N7.mod
                  have Bg7 := N7.blk
                  have hesc := escQ5 h54
                  refine s_append sl45 rfl rfl Oa (Src.own Tryd.underlying45 (Own.all (cs := [_, _]) Bg7 rfl (by omega)) (by simp [Value.oneCell'])) (by decide) (by omega) (by omega) rfl fun v6 w15 A6 => ?_
                  have Dv6_g7 := A6.ne Da0_g7 Bg7
                  have Lv6_E := A6.ge L0 E
                  replace Bg7 := Bg7.mod A6.mod (fun hx => Da0_g7 _ hx rfl)
                  replace E := E.trans' A6.mod (fun x hx => .inr (L0 x hx))
                  replace Oa := A6.own
                  refine sv (o_as rfl) rfl ?_
                  refine l_nil ?_
                  refine e_in (by simp) ?_
                  refine e_in (by simp) ?_
                  refine e_K (hK11 _ _ _ _ ?_)
                  refine c_region ?_
                  refine sv (o_mv rfl) rfl ?_
                  refine sv (o_addN rfl rfl (by omega)) rfl ?_
                  refine sv (o_as rfl) rfl ?_
                  refine l_nil ?_
                  exact e_round (σ := Nat × Value) (s := ⟨k, v⟩) (⟨k + 1, v6⟩) ⟨rfl, rfl, rfl, rfl, trivial⟩ ⟨by omega, Oa.same (by rw [escs_succ hc, hesc]; simp) (by rw [escs_succ hc, hesc]; simp [B8]), Lv6_E, E⟩ (by dsimp only; omega)
                · skip
                  refine c_seq fun K18 hK18 => ?_
                  refine c_region ?_
                  refine sv (o_mv rfl) rfl ?_
                  refine sv (o_eql rfl rfl) rfl ?_
                  refine sv (o_as rfl) rfl ?_
                  refine l_nil ?_
                  refine e_K (hK18 _ _ _ _ ?_)
                  refine c_if rfl (fun h60 => ?_) (fun h60 => ?_)
                  · skip
                    refine c_region ?_
                    refine sv (o_mv rfl) rfl ?_
                    refine s_bslice (cs := [_, _]) sl45 zv5 rfl rfl rfl (by decide) rfl fun g8 w16 N8 => ?_
                    have Lg8_E := N8.le E
                    have Da0_g8 := N8.own_ne Oa
                    replace E := E.then N8.mod
                    replace Oa := Oa.mod0 N8.mod
                    have Bg8 := N8.blk
                    have hesc := escQ6 h60
                    refine s_append sl45 rfl rfl Oa (Src.own Tryd.underlying45 (Own.all (cs := [_, _]) Bg8 rfl (by omega)) (by simp [Value.oneCell'])) (by decide) (by omega) (by omega) rfl fun v7 w17 A7 => ?_
                    have Dv7_g8 := A7.ne Da0_g8 Bg8
                    have Lv7_E := A7.ge L0 E
                    replace Bg8 := Bg8.mod A7.mod (fun hx => Da0_g8 _ hx rfl)
                    replace E := E.trans' A7.mod (fun x hx => .inr (L0 x hx))
                    replace Oa := A7.own
                    refine sv (o_as rfl) rfl ?_
                    refine l_nil ?_
                    refine e_in (by simp) ?_
                    refine e_in (by simp) ?_
                    refine e_K (hK11 _ _ _ _ ?_)
                    refine c_region ?_
                    refine sv (o_mv rfl) rfl ?_
                    refine sv (o_addN rfl rfl (by omega)) rfl ?_
                    refine sv (o_as rfl) rfl ?_
                    refine l_nil ?_
                    exact e_round (σ := Nat × Value) (s := ⟨k, v⟩) (⟨k + 1, v7⟩) ⟨rfl, rfl, rfl, rfl, trivial⟩ ⟨by omega, Oa.same (by rw [escs_succ hc, hesc]; simp) (by rw [escs_succ hc, hesc]; simp [B8]), Lv7_E, E⟩ (by dsimp only; omega)
                  · skip
                    refine c_seq fun K19 hK19 => ?_
                    refine c_region ?_
                    refine sv (o_mv rfl) rfl ?_
                    refine sv (o_lss rfl rfl) rfl ?_
                    refine sv (o_as rfl) rfl ?_
                    refine l_nil ?_
                    refine e_K (hK19 _ _ _ _ ?_)
                    refine c_if rfl (fun h66 => ?_) (fun h66 => ?_)
                    · skip
                      refine c_drawp [0] [1, 2, 3, 4, 5, 6, 7, 8] 9 [10, 11] wide (by kernel_rfl) (fun _ _ _ h => h.2) ?_
                      refine pw (fun _ => (o_mv rfl)) rfl rfl ?_
                      refine pw_nil ?_
                      refine tv (fun w_ E_ => (o_mv rfl)) rfl rfl ?_
                      refine tv (fun w_ E_ => (o_mv rfl)) rfl rfl ?_
                      refine tv (fun w_ E_ => ((o_quo rfl rfl (by omega)).to (v' := .int .u8 ((c.toNat / 16 : Nat) : Int)) (by rw [Int.tdiv_eq_ediv_of_nonneg (by omega), wrapu8_in _ (by omega), Int.natCast_ediv]; try rfl))) rfl rfl ?_
                      refine tv (fun w_ E_ => (o_sidx Tryd.underlying9 rfl rfl (by omega) (by rw [Int.toNat_natCast]; exact hex_at (by omega)))) rfl rfl ?_
                      refine tv (fun w_ E_ => (o_mv rfl)) rfl rfl ?_
                      refine tv (fun w_ E_ => (o_mv rfl)) rfl rfl ?_
                      refine tv (fun w_ E_ => ((o_remN rfl rfl (by omega)).to (v' := .int .u8 ((c.toNat % 16 : Nat) : Int)) (by rw [Int.natCast_emod]; try rfl))) rfl rfl ?_
                      refine tv (fun w_ E_ => (o_sidx Tryd.underlying9 rfl rfl (by omega) (by rw [Int.toNat_natCast]; exact hex_at (by omega)))) rfl rfl ?_
                      refine tw_tail rfl fun w18 E_ => ?_
                      replace E := E.then E_
                      replace Oa := Oa.mod0 E_
                      refine s_bslice (cs := [_, _, _, _, _, _]) sl45 zv5 rfl rfl rfl (by decide) rfl fun g9 w19 N9 => ?_
                      have Lg9_E := N9.le E
                      have Da0_g9 := N9.own_ne Oa
                      replace E := E.then N9.mod
                      replace Oa := Oa.mod0 N9.mod
                      have Bg9 := N9.blk
                      have hesc := (escQ7 (c := c) (by omega) (by omega) h36 h42 h48 h54 h60).trans (if_pos (by omega))
                      refine s_append sl45 rfl rfl Oa (Src.own Tryd.underlying45 (Own.all (cs := [_, _, _, _, _, _]) Bg9 rfl (by omega)) (by simp [Value.oneCell'])) (by decide) (by omega) (by omega) rfl fun v8 w20 A8 => ?_
                      have Dv8_g9 := A8.ne Da0_g9 Bg9
                      have Lv8_E := A8.ge L0 E
                      replace Bg9 := Bg9.mod A8.mod (fun hx => Da0_g9 _ hx rfl)
                      replace E := E.trans' A8.mod (fun x hx => .inr (L0 x hx))
                      replace Oa := A8.own
                      refine sv (o_as rfl) rfl ?_
                      refine l_nil ?_
                      refine e_in (by simp) ?_
                      refine e_in (by simp) ?_
                      refine e_K (hK11 _ _ _ _ ?_)
                      refine c_region ?_
                      refine sv (o_mv rfl) rfl ?_
                      refine sv (o_addN rfl rfl (by omega)) rfl ?_
                      refine sv (o_as rfl) rfl ?_
                      refine l_nil ?_
                      exact e_round (σ := Nat × Value) (s := ⟨k, v⟩) (⟨k + 1, v8⟩) ⟨rfl, rfl, rfl, rfl, trivial⟩ ⟨by omega, Oa.same (by rw [escs_succ hc, hesc]; simp) (by rw [escs_succ hc, hesc]; simp [B8]), Lv8_E, E⟩ (by dsimp only; omega)
                    · skip
                      refine c_region ?_
                      refine sv (o_mv rfl) rfl ?_
                      refine sv (o_mv rfl) rfl ?_
                      refine s_bslice (cs := [_]) sl45 zv5 rfl rfl rfl (by decide) rfl fun g10 w21 N10 => ?_
                      have Lg10_E := N10.le E
                      have Da0_g10 := N10.own_ne Oa
                      replace E := E.then N10.mod
                      replace Oa := Oa.mod0 N10.mod
                      have Bg10 := N10.blk
                      have hesc := (escQ7 (c := c) (by omega) (by omega) h36 h42 h48 h54 h60).trans (if_neg (by omega))
                      refine s_append sl45 rfl rfl Oa (Src.own Tryd.underlying45 (Own.all (cs := [_]) Bg10 rfl (by omega)) (by simp [Value.oneCell'])) (by decide) (by omega) (by omega) rfl fun v9 w22 A9 => ?_
                      have Dv9_g10 := A9.ne Da0_g10 Bg10
                      have Lv9_E := A9.ge L0 E
                      replace Bg10 := Bg10.mod A9.mod (fun hx => Da0_g10 _ hx rfl)
                      replace E := E.trans' A9.mod (fun x hx => .inr (L0 x hx))
                      replace Oa := A9.own
                      refine sv (o_as rfl) rfl ?_
                      refine l_nil ?_
                      refine e_in (by simp) ?_
                      refine e_in (by simp) ?_
                      refine e_K (hK11 _ _ _ _ ?_)
                      refine c_region ?_
                      refine sv (o_mv rfl) rfl ?_
                      refine sv (o_addN rfl rfl (by omega)) rfl ?_
                      refine sv (o_as rfl) rfl ?_
                      refine l_nil ?_
                      exact e_round (σ := Nat × Value) (s := ⟨k, v⟩) (⟨k + 1, v9⟩) ⟨rfl, rfl, rfl, rfl, trivial⟩ ⟨by omega, Oa.same (by rw [escs_succ hc, hesc]; simp) (by rw [escs_succ hc, hesc]; simp [B8]), Lv9_E, E⟩ (by dsimp only; omega)
    · skip
      have htk : s.take k = s := List.take_of_length_le (by omega)
      refine c_exit ?_
      refine e_then (by simp) ?_
      refine e_then (by simp) ?_
      refine e_hit ?_
      refine e_K (hK7 _ _ _ _ ?_)
      refine c_seq fun K20 hK20 => ?_
      refine c_region ?_
      refine sv (o_mv rfl) rfl ?_
      refine s_bslice (cs := [_]) sl45 zv5 rfl rfl rfl (by decide) rfl fun g11 w23 N11 => ?_
      have Lg11_E := N11.le E
      have Da0_g11 := N11.own_ne Oa
      replace E := E.then N11.mod
      replace Oa := Oa.mod0 N11.mod
      have Bg11 := N11.blk
      have hql := escs_len s
      have hq2 : (34 :: escs (s.take k)).length = (escs s).length + 1 := by rw [htk]; rfl
      refine s_append sl45 rfl rfl Oa (Src.own Tryd.underlying45 (Own.all (cs := [_]) Bg11 rfl (by omega)) (by simp [Value.oneCell'])) (by decide) (by omega) (by omega) rfl fun v10 w24 A10 => ?_
      have Dv10_g11 := A10.ne Da0_g11 Bg11
      have Lv10_E := A10.ge L0 E
      replace Bg11 := Bg11.mod A10.mod (fun hx => Da0_g11 _ hx rfl)
      replace E := E.trans' A10.mod (fun x hx => .inr (L0 x hx))
      replace Oa := A10.own
      refine sv (o_b2s_own (u := putQ s) Tryd.underlying45 Tryd.underlying5 Tryd.underlying9 rfl (Oa.same (by rw [htk]; simp [putQ]) (by rw [htk]; simp [putQ, B8, cells_b8]))) rfl ?_
      refine sv (o_as rfl) rfl ?_
      refine sv (o_as rfl) rfl ?_
      refine l_nil ?_
      refine e_K (hK20 _ _ _ _ ?_)
      refine c_ret ?_
      exact ret2 rfl rfl rfl ⟨by rw [hval]; rfl, E⟩
end Go.Proofs.YtkhbnhdlelmbnaaDoor.V

set_option linter.unusedVariables false
set_option linter.unusedSimpArgs false
namespace Go.Proofs.YtkhbnhdlelmbnaaDoor.V
open Go
section
variable {w0 w wA w' : World} {u0 u u1 u2 res : Value} {b t : Str} {r : Except Int Str}
abbrev OwB (w : World) (u : Value) (b : Str) : Prop := Own w 5 1 u b.length ((b.map b8c).flatten)
/-- what a writing function answers -/
def WR (w0 w : World) (u0 : Value) (r : Except Int Str) (res : Value) : Prop :=
  ∃ u, res = .tuple #[u, .int .i64 (ern r)] ∧ OwB w u (bts r) ∧ (∀ x ∈ ob u, x ∈ ob u0 ∨ w0.heap.size ≤ x) ∧ Mod (ob u0) w0 w ∧ (bts r).length ≤ 65536
theorem long_own (h : u2 = u1 ∧ bts (lng b) = b ∨ u2 = .slice none 0 0 ∧ bts (lng b) = []) (O : OwB w u1 b) : OwB w u2 (bts (lng b)) ∧ ∀ x ∈ ob u2, x ∈ ob u1 := by
  rcases h with ⟨rfl, h⟩ | ⟨rfl, h⟩
  · rw [h]; exact ⟨O, fun x hx => hx⟩
  · rw [h]; exact ⟨Own.nil w 5 1, by simp [ob]⟩
theorem WR.applong {n : Nat} {vs : List Value} (E : Mod [] w0 w) (AA : App w wA 5 1 u0 u1 n vs) (O1 : OwB wA u1 (b ++ t)) (h : u2 = u1 ∧ bts (lng (b ++ t)) = b ++ t ∨ u2 = .slice none 0 0 ∧ bts (lng (b ++ t)) = []) (E_ : Mod [] wA w') (hr : r = lng (b ++ t)) :
    WR w0 w' u0 r (.tuple #[u2, .int .i64 (ern (lng (b ++ t)))]) := by
  subst hr
  obtain ⟨h1, h2⟩ := long_own h (O1.mod0 E_)
  exact ⟨u2, rfl, h1, fun x hx => (AA.ob_ x (h2 x hx)).imp id (fun h => Nat.le_trans E.size h), ((E.mono (by simp)).trans AA.mod).trans (E_.mono (by simp)), lng_len _⟩
theorem WR.err {e : Int} (E : Mod [] w0 w) (he : e ≠ 0) (hr : r = .error e) : WR w0 w u0 r (.tuple #[.slice none 0 0, .int .i64 e]) := by
  subst hr
  exact ⟨_, by simp [ern, he], Own.nil w 5 1, by simp [ob], E.mono (by simp), by simp [bts]⟩
/-- the writing of a list or a map under way -/
structure WS (w0 w : World) (u0 : Value) (g V : Nat) (cells : List Value) (v : JV) (al am : Option Addr) (cl cm : Nat) (u : Value) (b : Str) : Prop where
  own : OwB w u b
  len : b.length ≤ 65536
  hob : ∀ x ∈ ob u, x ∈ ob u0 ∨ w0.heap.size ≤ x
  mod : Mod (ob u0) w0 w
  blk : Blk w g V cells
  dis : ∀ x ∈ ob u, x ≠ g
  rl : Rep (ob u) w (.sl 6 (v.list.map JV.D)) (.slice al v.list.length cl)
  rm : Rep (ob u) w (.sl 7 (v.map.map JV.Dp)) (.slice am v.map.length cm)
variable {g V : Nat} {cells : List Value} {v : JV} {al am : Option Addr} {cl cm : Nat}
theorem WS.step (H : WS w0 w u0 g V cells v al am cl cm u b) {b' : Str} {u' : Value} (k : Mod (ob u) w w') (O : OwB w' u' b') (ho : ∀ x ∈ ob u', x ∈ ob u ∨ w.heap.size ≤ x) (hl : b'.length ≤ 65536) : WS w0 w' u0 g V cells v al am cl cm u' b' where
  own := O
  len := hl
  hob := fun x hx => (ho x hx).elim (H.hob x) (fun h => .inr (Nat.le_trans H.mod.size h))
  mod := H.mod.trans' k H.hob
  blk := H.blk.mod k (fun hx => H.dis _ hx rfl)
  dis := fun x hx => (ho x hx).elim (H.dis x) (fun h e => by have := H.blk.lt; omega)
  rl := Rep.to k (fun x hx => hx) ho _ _ H.rl
  rm := Rep.to k (fun x hx => hx) ho _ _ H.rm
theorem WS.mod0 (H : WS w0 w u0 g V cells v al am cl cm u b) (k : Mod [] w w') : WS w0 w' u0 g V cells v al am cl cm u b :=
  H.step (k.mono (by simp)) (H.own.mod0 k) (fun x hx => .inl hx) H.len
theorem WS.applong {n : Nat} {vs : List Value} (H : WS w0 w u0 g V cells v al am cl cm u b) (AA : App w wA 5 1 u u1 n vs) (O1 : OwB wA u1 (b ++ t)) (h : u2 = u1 ∧ bts (lng (b ++ t)) = b ++ t ∨ u2 = .slice none 0 0 ∧ bts (lng (b ++ t)) = []) (E_ : Mod [] wA w') :
    WS w0 w' u0 g V cells v al am cl cm u2 (bts (lng (b ++ t))) := by
  obtain ⟨h1, h2⟩ := long_own h (O1.mod0 E_)
  exact H.step (AA.mod.trans (E_.mono (by simp))) h1 (fun x hx => AA.ob_ x (h2 x hx)) (lng_len _)
theorem WS.wr (H : WS w0 w u0 g V cells v al am cl cm u b) (h : WR w w' u r res) : ∃ u', res = .tuple #[u', .int .i64 (ern r)] ∧ WS w0 w' u0 g V cells v al am cl cm u' (bts r) := by
  obtain ⟨u', h1, h2, h3, h4, h5⟩ := h
  exact ⟨u', h1, H.step h4 h2 h3 h5⟩
theorem WS.err (H : WS w0 w u0 g V cells v al am cl cm u b) (hr : ¬ ern r = 0) : WR w0 w u0 r (.tuple #[.slice none 0 0, .int .i64 (ern r)]) := by
  obtain ⟨e, rfl⟩ := ern_no hr
  exact ⟨_, rfl, Own.nil w 5 1, by simp [ob], H.mod, by simp [bts]⟩
theorem WS.fin {n : Nat} {vs : List Value} (H : WS w0 w u0 g V cells v al am cl cm u b) (AA : App w wA 5 1 u u1 n vs) (O1 : OwB wA u1 (b ++ t)) (h : u2 = u1 ∧ bts (lng (b ++ t)) = b ++ t ∨ u2 = .slice none 0 0 ∧ bts (lng (b ++ t)) = []) (E_ : Mod [] wA w') (hr : r = lng (b ++ t)) :
    WR w0 w' u0 r (.tuple #[u2, .int .i64 (ern (lng (b ++ t)))]) := by
  subst hr
  have H' := H.applong AA O1 h E_
  exact ⟨u2, rfl, H'.own, H'.hob, H'.mod, H'.len⟩
theorem WS.ok (H : WS w0 w u0 g V cells v al am cl cm u (bts (.ok b))) : WS w0 w u0 g V cells v al am cl cm u b := H
end
theorem WR.from_ {w0 w w' : World} {u0 res : Value} {r r' : Except Int Str} (E : Mod [] w0 w) (h : WR w w' u0 r res) (hr : r' = r) : WR w0 w' u0 r' res := by
  subst hr
  obtain ⟨u, h1, h2, h3, h4, h5⟩ := h
  exact ⟨u, h1, h2, fun x hx => (h3 x hx).imp id (fun h => Nat.le_trans E.size h), (E.mono (by simp)).trans h4, h5⟩
theorem WS.init {w0 w : World} {u0 : Value} {b : Str} {g V : Nat} {cells : List Value} {v : JV} {al am : Option Addr} {cl cm : Nat} (E : Mod [] w0 w) (O : OwB w0 u0 b) (hb : b.length ≤ 65536) (B : Blk w g V cells) (hg : w0.heap.size ≤ g)
    (Rl : Rep (ob u0) w0 (.sl 6 (v.list.map JV.D)) (.slice al v.list.length cl)) (Rm : Rep (ob u0) w0 (.sl 7 (v.map.map JV.Dp)) (.slice am v.map.length cm)) : WS w0 w u0 g V cells v al am cl cm u0 b where
  own := O.mod0 E
  len := hb
  hob := fun x hx => .inl hx
  mod := E.mono (by simp)
  blk := B
  dis := fun x hx e => by have := O.lt x hx; omega
  rl := Rl.to0 E
  rm := Rm.to0 E
theorem bare_num {v : JV} (h : v.bare = true) (h2 : v.kind = 2) : -9007199254740991 ≤ v.num ∧ v.num ≤ 9007199254740991 := by
  simp only [JV.bare, h2] at h
  simp at h
  omega
theorem okb {f : Str → Except Int Str} {b : Str} {W : Except Int Str} (h : (Except.ok b : Except Int Str).bind f = W) : f b = W := h
theorem bind_self (r : Except Int Str) : (r.bind fun b => Except.ok b) = r := by cases r <;> rfl
theorem le_bl {a b : Str} (h : ¬ (bl a b || a == b) = true) : bl b a = true := by
  rcases bl_total b a with h1 | h1 | h1
  · exact h1
  · subst h1; exact absurd (by simp) h
  · exact absurd (by simp [h1]) h
theorem bl_le {a b : Str} (h : (bl a b || a == b) = true) : bl b a = false := by
  rcases Bool.or_eq_true_iff.1 h with h | h
  · exact bl_asymm h
  · have := eq_of_beq h; subst this; exact bl_irrefl a
def prevK (m : List (Str × JV)) (k : Nat) : Option Str := if k = 0 then none else (m[k - 1]?).map (·.1)
theorem wrl_at {l : List JV} {k : Nat} {x : JV} {deep : Nat} {fst : Bool} {b : Str} (h : l[k]? = some x) : JV.wrl (l.drop k) deep fst b = (if fst then Except.ok b else lng (b ++ [44])).bind fun b => (JV.wr x (deep + 1) b).bind fun b => JV.wrl (l.drop (k + 1)) deep false b := by
  obtain ⟨hk, rfl⟩ := List.getElem?_eq_some_iff.1 h
  rw [List.drop_eq_getElem_cons hk, JV.wrl]
theorem wrl_end {l : List JV} {k deep : Nat} {fst : Bool} {b : Str} (h : l.length ≤ k) : JV.wrl (l.drop k) deep fst b = .ok b := by
  rw [List.drop_eq_nil_of_le h, JV.wrl]
theorem wrm_none (p : List UInt8 × JV) (r : List (List UInt8 × JV)) (deep : Nat) (b : Str) : JV.wrm (p :: r) deep none b = (txtW b p.1).bind fun b => (lng (b ++ [58])).bind fun b => (JV.wr p.2 (deep + 1) b).bind fun b => JV.wrm r deep (some p.1) b := by
  rw [JV.wrm.eq_def]
  rfl
theorem wrm_some (p : List UInt8 × JV) (q : Str) (r : List (List UInt8 × JV)) (deep : Nat) (b : Str) : JV.wrm (p :: r) deep (some q) b = ((lng (b ++ [44])).bind fun b => if bl q p.1 then .ok b else .error 1).bind fun b => (txtW b p.1).bind fun b => (lng (b ++ [58])).bind fun b => (JV.wr p.2 (deep + 1) b).bind fun b => JV.wrm r deep (some p.1) b := by
  rw [JV.wrm.eq_def]
theorem wrm_end {m : List (Str × JV)} {k deep : Nat} {p : Option Str} {b : Str} (h : m.length ≤ k) : JV.wrm (m.drop k) deep p b = .ok b := by
  rw [List.drop_eq_nil_of_le h, JV.wrm]
theorem prevK_succ {m : List (Str × JV)} {k : Nat} {p : Str × JV} (h : m[k]? = some p) : prevK m (k + 1) = some p.1 := by
  simp [prevK, h]
theorem wrm_at0 {m : List (Str × JV)} {p : Str × JV} {deep : Nat} {b : Str} (h : m[0]? = some p) : JV.wrm (m.drop 0) deep (prevK m 0) b = (txtW b p.1).bind fun b => (lng (b ++ [58])).bind fun b => (JV.wr p.2 (deep + 1) b).bind fun b => JV.wrm (m.drop (0 + 1)) deep (prevK m (0 + 1)) b := by
  rw [prevK_succ h]
  obtain ⟨hk, rfl⟩ := List.getElem?_eq_some_iff.1 h
  rw [List.drop_eq_getElem_cons hk]
  exact wrm_none _ _ _ _
theorem wrm_at {m : List (Str × JV)} {k : Nat} {p q : Str × JV} {deep : Nat} {b : Str} (h : m[k]? = some p) (hq : m[k - 1]? = some q) (h0 : 0 < k) : JV.wrm (m.drop k) deep (prevK m k) b = ((lng (b ++ [44])).bind fun b => if bl q.1 p.1 then .ok b else .error 1).bind fun b => (txtW b p.1).bind fun b => (lng (b ++ [58])).bind fun b => (JV.wr p.2 (deep + 1) b).bind fun b => JV.wrm (m.drop (k + 1)) deep (prevK m (k + 1)) b := by
  rw [prevK_succ h]
  have hp : prevK m k = some q.1 := by simp [prevK, hq]; omega
  obtain ⟨hk, rfl⟩ := List.getElem?_eq_some_iff.1 h
  rw [List.drop_eq_getElem_cons hk, hp]
  exact wrm_some _ _ _ _ _
theorem wrl_step {l : List JV} {k deep : Nat} {x : JV} {b1 : Str} {W r1 : Except Int Str} (hx : l[k]? = some x) (hinv : ((Except.ok b1 : Except Int Str).bind fun b => JV.wrl (l.drop k) deep (decide (k = 0)) b) = W) (h1 : (if decide (k = 0) then Except.ok b1 else lng (b1 ++ [44])) = r1) :
    (r1.bind fun b => (JV.wr x (deep + 1) b).bind fun b => JV.wrl (l.drop (k + 1)) deep (decide (k + 1 = 0)) b) = W := by
  have h2 : JV.wrl (l.drop k) deep (decide (k = 0)) b1 = W := hinv
  rw [wrl_at hx, h1] at h2
  rw [show decide (k + 1 = 0) = false by simp]
  exact h2
theorem wrm_step0 {m : List (Str × JV)} {k deep : Nat} {x : Str × JV} {b1 : Str} {W : Except Int Str} (hx : m[k]? = some x) (h0 : k = 0) (hinv : ((Except.ok b1 : Except Int Str).bind fun b => JV.wrm (m.drop k) deep (prevK m k) b) = W) :
    ((txtW b1 x.1).bind fun b => (lng (b ++ [58])).bind fun b => (JV.wr x.2 (deep + 1) b).bind fun b => JV.wrm (m.drop (k + 1)) deep (prevK m (k + 1)) b) = W := by
  subst h0
  have h2 : JV.wrm (m.drop 0) deep (prevK m 0) b1 = W := hinv
  rwa [wrm_at0 hx] at h2
theorem wrm_step {m : List (Str × JV)} {k deep : Nat} {x q : Str × JV} {b1 : Str} {W : Except Int Str} (hx : m[k]? = some x) (hq : m[k - 1]? = some q) (h0 : 0 < k) (hinv : ((Except.ok b1 : Except Int Str).bind fun b => JV.wrm (m.drop k) deep (prevK m k) b) = W) :
    (((lng (b1 ++ [44])).bind fun b => if bl q.1 x.1 then .ok b else .error 1).bind fun b => (txtW b x.1).bind fun b => (lng (b ++ [58])).bind fun b => (JV.wr x.2 (deep + 1) b).bind fun b => JV.wrm (m.drop (k + 1)) deep (prevK m (k + 1)) b) = W := by
  have h2 : JV.wrm (m.drop k) deep (prevK m k) b1 = W := hinv
  rwa [wrm_at hx hq h0] at h2
end Go.Proofs.YtkhbnhdlelmbnaaDoor.V
