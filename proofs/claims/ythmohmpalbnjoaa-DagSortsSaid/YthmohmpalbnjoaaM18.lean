/-
  A part of the proof: a graph beside its reference in memory, out of reach of other blocks; own slices apart. No condition of its own.
-/
import Derived.Test.YthmohmpalbnjoaaM17
import Derived.Test.YthmohmpalbnjoaaM15
import Derived.Test.YthmohmpalbnjoaaM6
set_option linter.unusedVariables false
set_option linter.unusedSimpArgs false
set_option maxRecDepth 10000
namespace Go.Proofs.Ythmohmpalbnjoaa.V
open Go Go.Proofs

theorem c_DagPaths (w : World) (cs : Gm) (v0 : Value) (R : Rep [] w (ndD cs) v0) (hC : CSm cs) (a : Str) (ha : a.length ≤ 140737488351232) (b : Str) (hb : b.length ≤ 140737488351232) : Calls Try.prog 9 [v0, S a, S b].toArray w (Ret fun u w' => u = .bool true ∧ Mod [] w w') := by
  refine enter Try.func9 rfl rfl rfl (l := [(0, _), (1, _), (2, _)]) ⟨rfl, rfl, rfl, trivial⟩ ?_
  have E := Mod.refl [] w
  have W := bm_wf cs
  refine c_seq fun K1 hK1 => ?_
  refine c_region ?_
  refine sv (o_as rfl) rfl ?_
  refine l_nil ?_
  refine e_K (hK1 _ _ _ _ ?_)
  refine c_seq fun K2 hK2 => ?_
  refine c_seq fun K3 hK3 => ?_
  refine c_region ?_
  refine sc (o_call ent10 rfl) (c_alive _) rfl fun v_ w1 h_ => ?_
  obtain ⟨rfl, E_⟩ := h_
  replace E := E.then E_
  refine sv ((o_not rfl).to (v' := .bool false) rfl) rfl ?_
  refine l_nil ?_
  refine e_K (hK3 _ _ _ _ ?_)
  refine c_false rfl ?_
  refine c_skip ?_
  refine e_K (hK2 _ _ _ _ ?_)
  refine c_seq fun K4 hK4 => ?_
  refine c_seq fun K5 hK5 => ?_
  by_cases hk21 : greatC cs = true
  · skip
    refine c_region ?_
    refine sv (o_mv rfl) rfl ?_
    refine sc (o_call ent11 rfl) (c_great _ cs _ (R.to0 E) hC) rfl fun v_ w2 h_ => ?_
    obtain ⟨rfl, E_⟩ := h_
    replace E := E.then E_
    refine sv (o_mv rfl) rfl ?_
    refine sn rfl (fun e_ => absurd ((hk21).symm.trans e_) (by decide)) rfl ?_
    refine sn rfl (fun e_ => absurd ((hk21).symm.trans e_) (by decide)) rfl ?_
    refine sn rfl (fun e_ => absurd ((hk21).symm.trans e_) (by decide)) rfl ?_
    refine sv (o_pickT (hk21) rfl rfl) rfl ?_
    refine sv (o_mv rfl) rfl ?_
    refine sn rfl (fun e_ => absurd ((rfl).symm.trans e_) (by decide)) rfl ?_
    refine sn rfl (fun e_ => absurd ((rfl).symm.trans e_) (by decide)) rfl ?_
    refine sn rfl (fun e_ => absurd ((rfl).symm.trans e_) (by decide)) rfl ?_
    refine sv (o_pickT (rfl) rfl rfl) rfl ?_
    refine l_nil ?_
    refine e_K (hK5 _ _ _ _ ?_)
    refine c_true rfl ?_
    refine c_seq fun K6 hK6 => ?_
    refine c_region ?_
    refine sv (o_as rfl) rfl ?_
    refine l_nil ?_
    refine e_K (hK6 _ _ _ _ ?_)
    refine c_ret ?_
    refine e_then (by simp) ?_
    exact ret1 rfl rfl ⟨rfl, E⟩
  · skip
    by_cases hk25 : ((a.length : Nat) : Int) > 1024
    · skip
      refine c_region ?_
      refine sv (o_mv rfl) rfl ?_
      refine sc (o_call ent11 rfl) (c_great _ cs _ (R.to0 E) hC) rfl fun v_ w3 h_ => ?_
      obtain ⟨rfl, E_⟩ := h_
      replace E := E.then E_
      refine sv (o_mv rfl) rfl ?_
      refine sg rfl (Bool.eq_false_iff.2 hk21) (o_mv rfl) rfl ?_
      refine sg rfl (Bool.eq_false_iff.2 hk21) (o_slen Try.underlying9 rfl) rfl ?_
      refine sg rfl (Bool.eq_false_iff.2 hk21) (o_gtr rfl rfl) rfl ?_
      refine sv (o_pickF (Bool.eq_false_iff.2 hk21) rfl rfl) rfl ?_
      refine sv (o_mv rfl) rfl ?_
      refine sn rfl (fun e_ => absurd ((decide_eq_true hk25).symm.trans e_) (by decide)) rfl ?_
      refine sn rfl (fun e_ => absurd ((decide_eq_true hk25).symm.trans e_) (by decide)) rfl ?_
      refine sn rfl (fun e_ => absurd ((decide_eq_true hk25).symm.trans e_) (by decide)) rfl ?_
      refine sv (o_pickT (decide_eq_true hk25) rfl rfl) rfl ?_
      refine l_nil ?_
      refine e_K (hK5 _ _ _ _ ?_)
      refine c_true rfl ?_
      refine c_seq fun K7 hK7 => ?_
      refine c_region ?_
      refine sv (o_as rfl) rfl ?_
      refine l_nil ?_
      refine e_K (hK7 _ _ _ _ ?_)
      refine c_ret ?_
      refine e_then (by simp) ?_
      exact ret1 rfl rfl ⟨rfl, E⟩
    · skip
      by_cases hk30 : ((b.length : Nat) : Int) > 1024
      · skip
        refine c_region ?_
        refine sv (o_mv rfl) rfl ?_
        refine sc (o_call ent11 rfl) (c_great _ cs _ (R.to0 E) hC) rfl fun v_ w4 h_ => ?_
        obtain ⟨rfl, E_⟩ := h_
        replace E := E.then E_
        refine sv (o_mv rfl) rfl ?_
        refine sg rfl (Bool.eq_false_iff.2 hk21) (o_mv rfl) rfl ?_
        refine sg rfl (Bool.eq_false_iff.2 hk21) (o_slen Try.underlying9 rfl) rfl ?_
        refine sg rfl (Bool.eq_false_iff.2 hk21) (o_gtr rfl rfl) rfl ?_
        refine sv (o_pickF (Bool.eq_false_iff.2 hk21) rfl rfl) rfl ?_
        refine sv (o_mv rfl) rfl ?_
        refine sg rfl (decide_eq_false hk25) (o_mv rfl) rfl ?_
        refine sg rfl (decide_eq_false hk25) (o_slen Try.underlying9 rfl) rfl ?_
        refine sg rfl (decide_eq_false hk25) (o_gtr rfl rfl) rfl ?_
        refine sv (o_pickF (decide_eq_false hk25) rfl rfl) rfl ?_
        refine l_nil ?_
        refine e_K (hK5 _ _ _ _ ?_)
        refine c_if rfl (fun h31 => ?_) (fun h31 => absurd hk30 h31)
        refine c_seq fun K8 hK8 => ?_
        refine c_region ?_
        refine sv (o_as rfl) rfl ?_
        refine l_nil ?_
        refine e_K (hK8 _ _ _ _ ?_)
        refine c_ret ?_
        refine e_then (by simp) ?_
        exact ret1 rfl rfl ⟨rfl, E⟩
      · skip
        refine c_region ?_
        refine sv (o_mv rfl) rfl ?_
        refine sc (o_call ent11 rfl) (c_great _ cs _ (R.to0 E) hC) rfl fun v_ w5 h_ => ?_
        obtain ⟨rfl, E_⟩ := h_
        replace E := E.then E_
        refine sv (o_mv rfl) rfl ?_
        refine sg rfl (Bool.eq_false_iff.2 hk21) (o_mv rfl) rfl ?_
        refine sg rfl (Bool.eq_false_iff.2 hk21) (o_slen Try.underlying9 rfl) rfl ?_
        refine sg rfl (Bool.eq_false_iff.2 hk21) (o_gtr rfl rfl) rfl ?_
        refine sv (o_pickF (Bool.eq_false_iff.2 hk21) rfl rfl) rfl ?_
        refine sv (o_mv rfl) rfl ?_
        refine sg rfl (decide_eq_false hk25) (o_mv rfl) rfl ?_
        refine sg rfl (decide_eq_false hk25) (o_slen Try.underlying9 rfl) rfl ?_
        refine sg rfl (decide_eq_false hk25) (o_gtr rfl rfl) rfl ?_
        refine sv (o_pickF (decide_eq_false hk25) rfl rfl) rfl ?_
        refine l_nil ?_
        refine e_K (hK5 _ _ _ _ ?_)
        refine c_if rfl (fun h31 => absurd h31 hk30) (fun h31 => ?_)
        refine c_skip ?_
        refine e_K (hK4 _ _ _ _ ?_)
        refine c_seq fun K9 hK9 => ?_
        refine c_region ?_
        refine sv (o_mv rfl) rfl ?_
        have hCF := great_no (Bool.eq_false_iff.2 hk21)
        refine sc (o_call ent12 rfl) (c_built _ cs _ (R.to0 E) hCF) rfl fun v_ w6 h_ => ?_
        obtain ⟨g, bA, bB, vr, rfl, G, RV, E_⟩ := h_
        replace E := E.then E_
        obtain ⟨wG, hwG⟩ : ∃ x, x = w6 := ⟨_, rfl⟩
        subst hwG
        have Eg := Mod.refl [] wG
        obtain ⟨adr, cr, rfl, hr1, hr2⟩ := ndD_len RV.rep
        have RV0 := RV.rep.anti (A' := []) (by simp)
        have hbm : (bm cs).length ≤ 60 := by have := bm_len cs; have := hCF.len; omega
        refine sv (o_mv rfl) rfl ?_
        refine sv (o_ext rfl rfl) rfl ?_
        refine sv (o_ext rfl rfl) rfl ?_
        refine sv (o_ext rfl rfl) rfl ?_
        refine sv (o_as rfl) rfl ?_
        refine sv (o_as rfl) rfl ?_
        refine sv (o_as rfl) rfl ?_
        refine l_nil ?_
        refine e_K (hK9 _ _ _ _ ?_)
        refine c_seq fun K10 hK10 => ?_
        refine c_region ?_
        refine sv (o_mv rfl) rfl ?_
        refine sv (o_mv rfl) rfl ?_
        refine sv (o_mv rfl) rfl ?_
        refine s_bslice (cs := [_, _]) sl23 zv9 rfl rfl rfl (by decide) rfl fun g1 w7 N1 => ?_
        have Lg1_E := N1.le E
        have Lg1_Eg := N1.le Eg
        replace E := E.then N1.mod
        replace Eg := Eg.then N1.mod
        have Bg1 := N1.blk
        refine sc (o_call ent16 rfl) (c_Past [] _ g bA bB _ (G.mod0 Eg) [a, b] _ (OwnS.rep [] (OwnS.to (l' := [a, b]) (Own.all (sz := 1) (c := 2) (cs := [_, _]) Bg1 rfl (by omega)) rfl rfl) (by simp [ob])) (by simp)) rfl fun v_ w8 h_ => ?_
        obtain ⟨OQ, LQ, E_⟩ := h_
        replace Bg1 := Bg1.mod0 E_
        replace E := E.then E_
        replace Eg := Eg.then E_
        obtain ⟨adq, cq, rfl, hq1, hq2⟩ := Own.form OQ
        have RQ := OwnS.rep [] OQ (by simp)
        obtain ⟨wQ, hwQ⟩ : ∃ x, x = w8 := ⟨_, rfl⟩
        subst hwQ
        have Eq := Mod.refl [] wQ
        refine sv (o_as rfl) rfl ?_
        refine l_nil ?_
        refine e_K (hK10 _ _ _ _ ?_)
        refine c_seq fun K11 hK11 => ?_
        refine c_region ?_
        refine sv (o_as rfl) rfl ?_
        refine l_nil ?_
        refine e_K (hK11 _ _ _ _ ?_)
        refine c_seq fun K12 hK12 => ?_
        refine c_seq fun K13 hK13 => ?_
        refine c_region ?_
        refine sv (o_mv rfl) rfl ?_
        refine sv (o_mv rfl) rfl ?_
        refine s_bslice (cs := [_]) sl23 zv9 rfl rfl rfl (by decide) rfl fun g2 w9 N2 => ?_
        have Lg2_E := N2.le E
        have Lg2_Eg := N2.le Eg
        have Lg2_Eq := N2.le Eq
        replace E := E.then N2.mod
        replace Eg := Eg.then N2.mod
        replace Eq := Eq.then N2.mod
        have Bg2 := N2.blk
        have hs1 := E.size
        have hs2 := Eg.size
        have hs3 := Eq.size
        refine sc (o_call ent16 rfl) (c_Past [] _ g bA bB _ (G.mod0 Eg) [a] _ (OwnS.rep [] (OwnS.to (l' := [a]) (Own.all (sz := 1) (c := 1) (cs := [_]) Bg2 rfl (by omega)) rfl rfl) (by simp [ob])) (by simp)) rfl fun v_ w10 h_ => ?_
        obtain ⟨O1, L1, E_⟩ := h_
        replace Bg2 := Bg2.mod0 E_
        replace E := E.then E_
        replace Eg := Eg.then E_
        replace Eq := Eq.then E_
        have hl0 := past_len (bm cs) [a]
        have E1 := Mod.refl [] w10
        refine sv (o_mv rfl) rfl ?_
        refine sv (o_mv rfl) rfl ?_
        refine s_bslice (cs := [_]) sl23 zv9 rfl rfl rfl (by decide) rfl fun g3 w11 N3 => ?_
        have Lg3_E := N3.le E
        have Lg3_Eg := N3.le Eg
        have Lg3_Eq := N3.le Eq
        have Lg3_E1 := N3.le E1
        have Dg2_g3 := N3.ne Bg2
        replace Bg2 := Bg2.mod0 N3.mod
        replace E := E.then N3.mod
        replace Eg := Eg.then N3.mod
        replace Eq := Eq.then N3.mod
        replace E1 := E1.then N3.mod
        have Bg3 := N3.blk
        refine sc (o_call ent16 rfl) (c_Past [] _ g bA bB _ (G.mod0 Eg) [b] _ (OwnS.rep [] (OwnS.to (l' := [b]) (Own.all (sz := 1) (c := 1) (cs := [_]) Bg3 rfl (by omega)) rfl rfl) (by simp [ob])) (by simp)) rfl fun v_ w12 h_ => ?_
        obtain ⟨O2, L2, E_⟩ := h_
        replace Bg2 := Bg2.mod0 E_
        replace Bg3 := Bg3.mod0 E_
        replace E := E.then E_
        replace Eg := Eg.then E_
        replace Eq := Eq.then E_
        replace E1 := E1.then E_
        have hl1 := past_len (bm cs) [a]
        have hl2 := past_len (bm cs) [b]
        have hll := @List.length_append _ (past (bm cs) [a]) (past (bm cs) [b])
        refine s_append sl23 rfl rfl (Own.mod0 O1 E1) (Src.own Try.underlying23 O2 (by intro v hv; obtain ⟨a_, h1, h2⟩ := List.mem_flatten.1 hv; obtain ⟨z, _, rfl⟩ := List.mem_map.1 h1; simp at h2; subst h2; rfl)) (by decide) (by omega) (by omega) rfl fun vL w13 AL => ?_
        have OL : OwnS w13 9 vL ((past (bm cs) [a]) ++ (past (bm cs) [b])) := OwnS.to AL.own (by simp) (by simp)
        replace E := E.trans' AL.mod (fun x hx => .inr (by have := L1 x hx; omega))
        replace Eg := Eg.trans' AL.mod (fun x hx => .inr (by have := L1 x hx; omega))
        replace Eq := Eq.trans' AL.mod (fun x hx => .inr (by have := L1 x hx; omega))
        replace G := G.mod0 Eg
        replace RQ := RQ.to0 Eq
        clear Eg Eq
        obtain ⟨adl, cl, rfl, hl1, hl2⟩ := Own.form OL
        have RL := OwnS.rep [] OL (by simp)
        obtain ⟨wA, hwA⟩ : ∃ x, x = w13 := ⟨_, rfl⟩
        subst hwA
        have Ea := Mod.refl [] wA
        refine sv (o_len Try.underlying23 rfl) rfl ?_
        refine sv (o_mv rfl) rfl ?_
        refine l_nil ?_
        refine e_K (hK13 _ _ _ _ ?_)
        refine c_block ?_
        refine c_loop (σ := Nat × Value) (fun ⟨k, v⟩ => [(1, S a), (7, .pointer (some ⟨g, 0, none⟩)), (10, .slice adq (past (bm cs) [a, b]).length cq), (11, v), (51, .slice adl ((past (bm cs) [a]) ++ (past (bm cs) [b])).length cl), (52, .int .i64 ((past (bm cs) [a]) ++ (past (bm cs) [b])).length), (53, .int .i64 (k : Int))]) (fun ⟨k, v⟩ w1 => k ≤ ((past (bm cs) [a]) ++ (past (bm cs) [b])).length ∧ Rep [] w1 (strD (setS (((past (bm cs) [a]) ++ (past (bm cs) [b])).take k))) v ∧ Mod [] w w1 ∧ Mod [] wA w1) (fun ⟨k, v⟩ => ((past (bm cs) [a]) ++ (past (bm cs) [b])).length - k) (⟨0, .slice none 0 0⟩) ⟨rfl, rfl, rfl, rfl, rfl, rfl, rfl, trivial⟩ (⟨by omega, OwnS.rep [] (OwnS.nil _ 9) (by simp [ob]), E, Ea⟩) ?_
        rintro ⟨k, v⟩ w14 ⟨hk, RA, E, Ea⟩
        refine c_seq fun K14 hK14 => ?_
        refine c_region ?_
        refine sv (o_lss rfl rfl) rfl ?_
        refine l_nil ?_
        refine e_K (hK14 _ _ _ _ ?_)
        refine c_seq fun K15 hK15 => ?_
        refine c_if rfl (fun h54 => ?_) (fun h54 => ?_)
        · skip
          have hlt : k < ((past (bm cs) [a]) ++ (past (bm cs) [b])).length := by omega
          obtain ⟨x, hx_x⟩ : ∃ x, (((past (bm cs) [a]) ++ (past (bm cs) [b])))[k]? = some x := ⟨_, List.getElem?_eq_getElem (by omega)⟩
          obtain ⟨a_x, ha_x, hcs_x, _⟩ := flat_at (RL.to0 Ea) hx_x
          obtain rfl := ha_x
          have Ek := Mod.refl [] w14
          refine c_skip ?_
          refine e_K (hK15 _ _ _ _ ?_)
          refine c_seq fun K16 hK16 => ?_
          refine c_block ?_
          refine c_seq fun K17 hK17 => ?_
          refine c_region ?_
          refine sv (o_ix sl23 rfl rfl (by omega)) rfl ?_
          refine sv (o_ld sc9 rfl hcs_x.c0) rfl ?_
          refine sv (o_as rfl) rfl ?_
          refine l_nil ?_
          refine e_K (hK17 _ _ _ _ ?_)
          refine c_region ?_
          refine sv (o_mv rfl) rfl ?_
          refine sv (o_mv rfl) rfl ?_
          refine sc (o_call ent28 rfl) (g_with [] _ (setS (((past (bm cs) [a]) ++ (past (bm cs) [b])).take k)) _ (RA.to0 Ek) x (by have h8 := @setS_len (((past (bm cs) [a]) ++ (past (bm cs) [b])).take k); have h9 := List.length_take_le k ((past (bm cs) [a]) ++ (past (bm cs) [b])); omega) (by simp)) rfl fun v_ w15 h_ => ?_
          obtain ⟨RW, E_⟩ := h_
          replace E := E.then E_
          replace Ea := Ea.then E_
          replace Ek := Ek.then E_
          refine sv (o_as rfl) rfl ?_
          refine l_nil ?_
          refine e_in (by simp) ?_
          refine e_K (hK16 _ _ _ _ ?_)
          refine c_region ?_
          refine sv (o_addN rfl rfl (by omega)) rfl ?_
          refine sv (o_mv rfl) rfl ?_
          refine l_nil ?_
          exact e_round (σ := Nat × Value) (s := ⟨k, v⟩) (⟨k + 1, v_⟩) ⟨rfl, rfl, rfl, rfl, rfl, rfl, rfl, trivial⟩ ⟨by omega, by rw [setS_succ hx_x]; exact RW, E, Ea⟩ (by first | omega | (dsimp only; omega))
        · skip
          have hkk : ((past (bm cs) [a]) ++ (past (bm cs) [b])).take k = ((past (bm cs) [a]) ++ (past (bm cs) [b])) := List.take_of_length_le (by omega)
          rw [hkk] at RA
          have Ek := Mod.refl [] w14
          refine c_exit ?_
          refine e_then (by simp) ?_
          refine e_then (by simp) ?_
          refine e_hit ?_
          refine e_K (hK12 _ _ _ _ ?_)
          refine c_seq fun K18 hK18 => ?_
          refine c_seq fun K19 hK19 => ?_
          refine c_region ?_
          refine sv (o_mv rfl) rfl ?_
          refine sv (o_mv rfl) rfl ?_
          refine sc (o_call ent15 rfl) (g_same _ (past (bm cs) [a, b]) (setS ((past (bm cs) [a]) ++ (past (bm cs) [b]))) _ _ (RQ.to0 Ea) (RA.to0 Ek)) rfl fun v_ w16 h_ => ?_
          obtain ⟨h63, E_⟩ := h_
          replace E := E.then E_
          replace Ea := Ea.then E_
          replace Ek := Ek.then E_
          obtain rfl : v_ = .bool true := h63.trans (by rw [past_two W]; simp)
          refine sv ((o_not rfl).to (v' := .bool false) rfl) rfl ?_
          refine l_nil ?_
          refine e_K (hK19 _ _ _ _ ?_)
          refine c_false rfl ?_
          refine c_skip ?_
          refine e_K (hK18 _ _ _ _ ?_)
          refine c_seq fun K20 hK20 => ?_
          refine c_seq fun K21 hK21 => ?_
          refine c_region ?_
          refine sv (o_mv rfl) rfl ?_
          refine sv (o_mv rfl) rfl ?_
          refine sc (o_call ent20 rfl) (c_has [] _ g bA bB _ (G.mod0 Ea) a) rfl fun v_ w17 h_ => ?_
          obtain ⟨rfl, E_⟩ := h_
          replace E := E.then E_
          replace Ea := Ea.then E_
          replace Ek := Ek.then E_
          refine sv (o_not rfl) rfl ?_
          refine l_nil ?_
          refine e_K (hK21 _ _ _ _ ?_)
          refine c_cond rfl (fun h68 => ?_) (fun h68 => ?_)
          · skip
            have hna : a ∉ (bm cs).keys := fun h => by rw [look_keys.2 h] at h68; simp at h68
            refine c_seq fun K22 hK22 => ?_
            refine c_region ?_
            refine sv (o_mv rfl) rfl ?_
            refine sv (o_mv rfl) rfl ?_
            refine s_bslice (cs := [_]) sl23 zv9 rfl rfl rfl (by decide) rfl fun g4 w18 N4 => ?_
            have Lg4_E := N4.le E
            have Lg4_Ea := N4.le Ea
            have Lg4_Ek := N4.le Ek
            replace E := E.then N4.mod
            replace Ea := Ea.then N4.mod
            replace Ek := Ek.then N4.mod
            have Bg4 := N4.blk
            refine sc (o_call ent16 rfl) (c_Past [] _ g bA bB _ (G.mod0 Ea) [a] _ (OwnS.rep [] (OwnS.to (l' := [a]) (Own.all (sz := 1) (c := 1) (cs := [_]) Bg4 rfl (by omega)) rfl rfl) (by simp [ob])) (by simp)) rfl fun v_ w19 h_ => ?_
            obtain ⟨O3, L3, E_⟩ := h_
            replace Bg4 := Bg4.mod0 E_
            replace E := E.then E_
            replace Ea := Ea.then E_
            replace Ek := Ek.then E_
            obtain ⟨ad3, c3, rfl, h31, h32⟩ := Own.form O3
            refine sv (o_len Try.underlying23 rfl) rfl ?_
            refine sv ((o_eql rfl rfl).to (v' := .bool true) (by rw [past_none W hna]; simp)) rfl ?_
            refine sv (o_as rfl) rfl ?_
            refine l_nil ?_
            refine e_K (hK22 _ _ _ _ ?_)
            refine c_ret ?_
            refine e_then (by simp) ?_
            exact ret1 rfl rfl ⟨rfl, E⟩
          · skip
            have hka : a ∈ (bm cs).keys := look_keys.1 (by simpa using h68)
            refine c_skip ?_
            refine e_K (hK20 _ _ _ _ ?_)
            refine c_seq fun K23 hK23 => ?_
            refine c_region ?_
            refine sv (o_mv rfl) rfl ?_
            refine s_bslice (cs := [_]) sl23 zv9 rfl rfl rfl (by decide) rfl fun g5 w20 N5 => ?_
            have Lg5_E := N5.le E
            have Lg5_Ea := N5.le Ea
            have Lg5_Ek := N5.le Ek
            replace E := E.then N5.mod
            replace Ea := Ea.then N5.mod
            replace Ek := Ek.then N5.mod
            have Bg5 := N5.blk
            refine sv (o_as rfl) rfl ?_
            refine l_nil ?_
            refine e_K (hK23 _ _ _ _ ?_)
            refine c_seq fun K24 hK24 => ?_
            refine c_seq fun K25 hK25 => ?_
            refine c_region ?_
            refine sv (o_mv rfl) rfl ?_
            refine sv (o_mv rfl) rfl ?_
            refine sc (o_call ent21 rfl) (c_ahead [] _ g bA bB _ (G.mod0 Ea) a) rfl fun v_ w21 h_ => ?_
            obtain ⟨OA, LA, E_⟩ := h_
            replace Bg5 := Bg5.mod0 E_
            replace E := E.then E_
            replace Ea := Ea.then E_
            replace Ek := Ek.then E_
            obtain ⟨ada, ca, rfl, ha1, ha2⟩ := Own.form OA
            have RAh := OwnS.rep [] OA (by simp)
            replace G := G.mod0 Ea
            clear Ea
            obtain ⟨wB, hwB⟩ : ∃ x, x = w21 := ⟨_, rfl⟩
            subst hwB
            have Eb := Mod.refl [] wB
            refine sv (o_len Try.underlying23 rfl) rfl ?_
            refine sv (o_mv rfl) rfl ?_
            refine l_nil ?_
            refine e_K (hK25 _ _ _ _ ?_)
            refine c_block ?_
            refine c_loop (σ := Nat × Value) (fun ⟨i, v⟩ => [(1, S a), (7, .pointer (some ⟨g, 0, none⟩)), (11, v), (79, .slice ada ((bm cs).ahd a).length ca), (80, .int .i64 ((bm cs).ahd a).length), (81, .int .i64 (i : Int))]) (fun ⟨i, v⟩ w1 => i ≤ ((bm cs).ahd a).length ∧ Rep [] w1 (strD (accP (bm cs) a (((bm cs).ahd a).take i))) v ∧ Mod [] w w1 ∧ Mod [] wB w1) (fun ⟨i, v⟩ => ((bm cs).ahd a).length - i) (⟨0, .slice (some ⟨g5, 0, none⟩) 1 1⟩) ⟨rfl, rfl, rfl, rfl, rfl, rfl, trivial⟩ (⟨by omega, (OwnS.rep [] (OwnS.to (l' := [a]) (Own.all (sz := 1) (c := 1) (cs := [_]) Bg5 rfl (by omega)) rfl rfl) (by simp [ob])), E, Eb⟩) ?_
            rintro ⟨i, v⟩ w22 ⟨hi, RA, E, Eb⟩
            refine c_seq fun K26 hK26 => ?_
            refine c_region ?_
            refine sv (o_lss rfl rfl) rfl ?_
            refine l_nil ?_
            refine e_K (hK26 _ _ _ _ ?_)
            refine c_seq fun K27 hK27 => ?_
            refine c_if rfl (fun h82 => ?_) (fun h82 => ?_)
            · skip
              have hlt : i < ((bm cs).ahd a).length := by omega
              obtain ⟨x, hx_x⟩ : ∃ x, (((bm cs).ahd a))[i]? = some x := ⟨_, List.getElem?_eq_getElem (by omega)⟩
              obtain ⟨a_x, ha_x, hcs_x, _⟩ := flat_at (RAh.to0 Eb) hx_x
              obtain rfl := ha_x
              have Ek := Mod.refl [] w22
              refine c_skip ?_
              refine e_K (hK27 _ _ _ _ ?_)
              refine c_seq fun K28 hK28 => ?_
              refine c_block ?_
              refine c_seq fun K29 hK29 => ?_
              refine c_region ?_
              refine sv (o_ix sl23 rfl rfl (by omega)) rfl ?_
              refine sv (o_ld sc9 rfl hcs_x.c0) rfl ?_
              refine sv (o_as rfl) rfl ?_
              refine l_nil ?_
              refine e_K (hK29 _ _ _ _ ?_)
              refine c_seq fun K30 hK30 => ?_
              refine c_region ?_
              refine sv (o_mv rfl) rfl ?_
              refine sv (o_mv rfl) rfl ?_
              refine s_bslice (cs := [_]) sl23 zv9 rfl rfl rfl (by decide) rfl fun g6 w23 N6 => ?_
              have Lg6_E := N6.le E
              have Lg6_Eb := N6.le Eb
              have Lg6_Ek := N6.le Ek
              replace E := E.then N6.mod
              replace Eb := Eb.then N6.mod
              replace Ek := Ek.then N6.mod
              have Bg6 := N6.blk
              refine sc (o_call ent16 rfl) (c_Past [] _ g bA bB _ (G.mod0 Eb) [x] _ (OwnS.rep [] (OwnS.to (l' := [x]) (Own.all (sz := 1) (c := 1) (cs := [_]) Bg6 rfl (by omega)) rfl rfl) (by simp [ob])) (by simp)) rfl fun v_ w24 h_ => ?_
              obtain ⟨O5, L5, E_⟩ := h_
              replace Bg6 := Bg6.mod0 E_
              replace E := E.then E_
              replace Eb := Eb.then E_
              replace Ek := Ek.then E_
              obtain ⟨ad5, c5, rfl, h51, h52⟩ := Own.form O5
              have RP5 := OwnS.rep [] O5 (by simp)
              replace RA := RA.to0 Ek
              clear Ek
              obtain ⟨wP, hwP⟩ : ∃ x, x = w24 := ⟨_, rfl⟩
              subst hwP
              have Ep := Mod.refl [] wP
              refine sv (o_len Try.underlying23 rfl) rfl ?_
              refine sv (o_mv rfl) rfl ?_
              refine l_nil ?_
              refine e_K (hK30 _ _ _ _ ?_)
              refine c_block ?_
              refine c_loop (σ := Nat × Value) (fun ⟨j, u⟩ => [(1, S a), (7, .pointer (some ⟨g, 0, none⟩)), (11, u), (79, .slice (some a_x) ((bm cs).ahd a).length ca), (80, .int .i64 ((bm cs).ahd a).length), (81, .int .i64 (i : Int)), (88, .slice ad5 (past (bm cs) [x]).length c5), (89, .int .i64 (past (bm cs) [x]).length), (90, .int .i64 (j : Int))]) (fun ⟨j, u⟩ w1 => j ≤ (past (bm cs) [x]).length ∧ Rep [] w1 (strD (((past (bm cs) [x]).take j).foldl withS (accP (bm cs) a (((bm cs).ahd a).take i)))) u ∧ Mod [] w w1 ∧ Mod [] wB w1 ∧ Mod [] wP w1) (fun ⟨j, u⟩ => (past (bm cs) [x]).length - j) (⟨0, v⟩) ⟨rfl, rfl, rfl, rfl, rfl, rfl, rfl, rfl, rfl, trivial⟩ (⟨by omega, RA, E, Eb, Ep⟩) ?_
              rintro ⟨j, u⟩ w25 ⟨hj, RU, E, Eb, Ep⟩
              refine c_seq fun K31 hK31 => ?_
              refine c_region ?_
              refine sv (o_lss rfl rfl) rfl ?_
              refine l_nil ?_
              refine e_K (hK31 _ _ _ _ ?_)
              refine c_seq fun K32 hK32 => ?_
              refine c_if rfl (fun h91 => ?_) (fun h91 => ?_)
              · skip
                have hlt2 : j < (past (bm cs) [x]).length := by omega
                obtain ⟨y, hx_y⟩ : ∃ y, ((past (bm cs) [x]))[j]? = some y := ⟨_, List.getElem?_eq_getElem (by omega)⟩
                obtain ⟨a_y, ha_y, hcs_y, _⟩ := flat_at (RP5.to0 Ep) hx_y
                obtain rfl := ha_y
                have Ek := Mod.refl [] w25
                refine c_skip ?_
                refine e_K (hK32 _ _ _ _ ?_)
                refine c_seq fun K33 hK33 => ?_
                refine c_block ?_
                refine c_seq fun K34 hK34 => ?_
                refine c_region ?_
                refine sv (o_ix sl23 rfl rfl (by omega)) rfl ?_
                refine sv (o_ld sc9 rfl hcs_y.c0) rfl ?_
                refine sv (o_as rfl) rfl ?_
                refine l_nil ?_
                refine e_K (hK34 _ _ _ _ ?_)
                refine c_region ?_
                refine sv (o_mv rfl) rfl ?_
                refine sv (o_mv rfl) rfl ?_
                refine sc (o_call ent28 rfl) (g_with [] _ _ _ (RU.to0 Ek) y (by have h8 := accQ_len W hka (l := ((bm cs).ahd a).take i) (r := (past (bm cs) [x]).take j) (fun z hz => past_keys W (List.mem_of_mem_take hz)); omega) (by simp)) rfl fun v_ w26 h_ => ?_
                obtain ⟨RW, E_⟩ := h_
                replace E := E.then E_
                replace Eb := Eb.then E_
                replace Ep := Ep.then E_
                replace Ek := Ek.then E_
                refine sv (o_as rfl) rfl ?_
                refine l_nil ?_
                refine e_in (by simp) ?_
                refine e_K (hK33 _ _ _ _ ?_)
                refine c_region ?_
                refine sv (o_addN rfl rfl (by omega)) rfl ?_
                refine sv (o_mv rfl) rfl ?_
                refine l_nil ?_
                exact e_round (σ := Nat × Value) (s := ⟨j, u⟩) (⟨j + 1, v_⟩) ⟨rfl, rfl, rfl, rfl, rfl, rfl, rfl, rfl, rfl, trivial⟩ ⟨by omega, by rw [foldS_succ hx_y]; exact RW, E, Eb, Ep⟩ (by first | omega | (dsimp only; omega))
              · skip
                have hjj : (past (bm cs) [x]).take j = (past (bm cs) [x]) := List.take_of_length_le (by omega)
                rw [hjj] at RU
                rw [← accP_snoc, ← take_succ_snoc hx_x] at RU
                refine c_exit ?_
                refine e_then (by simp) ?_
                refine e_then (by simp) ?_
                refine e_hit ?_
                refine e_in (by simp) ?_
                refine e_K (hK28 _ _ _ _ ?_)
                refine c_region ?_
                refine sv (o_addN rfl rfl (by omega)) rfl ?_
                refine sv (o_mv rfl) rfl ?_
                refine l_nil ?_
                exact e_round (σ := Nat × Value) (s := ⟨i, v⟩) (⟨i + 1, u⟩) ⟨rfl, rfl, rfl, rfl, rfl, rfl, trivial⟩ ⟨by omega, RU, E, Eb⟩ (by first | omega | (dsimp only; omega))
            · skip
              have hkk : ((bm cs).ahd a).take i = ((bm cs).ahd a) := List.take_of_length_le (by omega)
              rw [hkk] at RA
              have Ek := Mod.refl [] w22
              refine c_exit ?_
              refine e_then (by simp) ?_
              refine e_then (by simp) ?_
              refine e_hit ?_
              refine e_K (hK24 _ _ _ _ ?_)
              refine c_seq fun K35 hK35 => ?_
              refine c_region ?_
              refine sv (o_mv rfl) rfl ?_
              refine sv (o_mv rfl) rfl ?_
              refine s_bslice (cs := [_]) sl23 zv9 rfl rfl rfl (by decide) rfl fun g7 w27 N7 => ?_
              have Lg7_E := N7.le E
              have Lg7_Eb := N7.le Eb
              have Lg7_Ek := N7.le Ek
              replace E := E.then N7.mod
              replace Eb := Eb.then N7.mod
              replace Ek := Ek.then N7.mod
              have Bg7 := N7.blk
              refine sc (o_call ent16 rfl) (c_Past [] _ g bA bB _ (G.mod0 Eb) [a] _ (OwnS.rep [] (OwnS.to (l' := [a]) (Own.all (sz := 1) (c := 1) (cs := [_]) Bg7 rfl (by omega)) rfl rfl) (by simp [ob])) (by simp)) rfl fun v_ w28 h_ => ?_
              obtain ⟨O6, L6, E_⟩ := h_
              replace Bg7 := Bg7.mod0 E_
              replace E := E.then E_
              replace Eb := Eb.then E_
              replace Ek := Ek.then E_
              
              have E6 := Mod.refl [] w28
              refine sv (o_mv rfl) rfl ?_
              refine sc (o_call ent15 rfl) (g_same _ (past (bm cs) [a]) (accP (bm cs) a ((bm cs).ahd a)) _ _ (OwnS.rep [] (Own.mod0 O6 E6) (by simp)) (RA.to0 Ek)) rfl fun v_ w29 h_ => ?_
              obtain ⟨h104, E_⟩ := h_
              replace Bg7 := Bg7.mod0 E_
              replace E := E.then E_
              replace Eb := Eb.then E_
              replace Ek := Ek.then E_
              replace E6 := E6.then E_
              obtain rfl : v_ = .bool true := h104.trans (by rw [past_one W hka]; simp)
              refine sv (o_as rfl) rfl ?_
              refine l_nil ?_
              refine e_K (hK35 _ _ _ _ ?_)
              refine c_ret ?_
              exact ret1 rfl rfl ⟨rfl, E⟩
end Go.Proofs.Ythmohmpalbnjoaa.V

set_option linter.unusedVariables false
set_option linter.unusedSimpArgs false
namespace Go.Proofs.Ythmohmpalbnjoaa.V
open Go
/-- the graph and its reference hold 'm', and no block of 'A' is theirs -/
structure GN (T : TypeId) (A : List Nat) (w : World) (g bA bB : Nat) (m : Gm) (v : Value) : Prop where
  gr : Gr T A w g bA bB m
  rf : Rep (g :: bA :: bB :: A) w (ndD m) v
section
variable {T : TypeId} {A A' M : List Nat} {w w' : World} {g bA bB : Nat} {m : Gm} {v : Value}
theorem GN.to (h : GN T A w g bA bB m v) (k : Mod M w w') (hM : ∀ x ∈ M, x ∈ A) (hA : ∀ x ∈ A', x ∈ A ∨ w.heap.size ≤ x) : GN T A' w' g bA bB m v :=
  ⟨h.gr.to k hM hA, Rep.to k (fun x hx => by simp [hM x hx]) (fun x hx => by
    simp only [List.mem_cons] at hx ⊢
    rcases hx with hx | hx | hx | hx
    · exact .inl (.inl hx)
    · exact .inl (.inr (.inl hx))
    · exact .inl (.inr (.inr (.inl hx)))
    · rcases hA x hx with h | h
      · exact .inl (.inr (.inr (.inr h)))
      · exact .inr h) _ _ h.rf⟩
theorem GN.mod0 (h : GN T A w g bA bB m v) (k : Mod [] w w') : GN T A w' g bA bB m v := h.to k (by simp) (fun x hx => .inl hx)
theorem GN.free (h : GN T A w g bA bB m v) : GN T [] w g bA bB m v := h.to (Mod.refl [] w) (by simp) (by simp)
theorem GN.new (h : GN T [] w g bA bB m v) (k : Mod [] w w') (hA : ∀ x ∈ A', w.heap.size ≤ x) : GN T A' w' g bA bB m v := h.to k (by simp) (fun x hx => .inr (hA x hx))
theorem GN.own (h : GN T A w g bA bB m v) (k : Mod M w w') (hM : ∀ x ∈ M, x ∈ A) : GN T A w' g bA bB m v := h.to k hM (fun x hx => .inl hx)
/-- own slices of names, no two of which share a block -/
structure Tri (T : Nat) (w : World) (us : List Value) (ns : List Nat) : Prop where
  own : ∀ (i : Nat) (v : Value), us[i]? = some v → ∃ l : List Str, OwnS w T v l ∧ ns[i]? = some l.length
  dis : ∀ (i j : Nat) (v v' : Value), us[i]? = some v → us[j]? = some v' → i ≠ j → ∀ x ∈ ob v, x ∉ ob v'
theorem Tri.mod0 {T : Nat} {us : List Value} {ns : List Nat} (h : Tri T w us ns) (k : Mod [] w w') : Tri T w' us ns :=
  ⟨fun i v hi => by obtain ⟨l, O, hl⟩ := h.own i v hi; exact ⟨l, Own.mod0 O k, hl⟩, h.dis⟩
theorem Tri.set {T : Nat} {us : List Value} {ns : List Nat} {i : Nat} {u : Value} {l : List Str} (h : Tri T w us ns) (hi : us[i]? = some u) (k : Mod (ob u) w w') (O : OwnS w' T u l) (hl : ns[i]? = some l.length) : Tri T w' us ns :=
  ⟨fun j v hj => by
    by_cases e : i = j
    · subst e
      rw [hi] at hj
      injection hj with hj
      subst hj
      exact ⟨l, O, hl⟩
    · obtain ⟨l', O', hl'⟩ := h.own j v hj
      exact ⟨l', Own.mod O' k (fun x hx hx' => h.dis i j u v hi hj e x hx' hx), hl'⟩, h.dis⟩
theorem Tri.three {T : Nat} {w1 w2 w3 : World} {u1 u2 u3 : Value} {l1 l2 l3 : List Str} (O1 : OwnS w1 T u1 l1) (k1 : Mod [] w1 w2) (O2 : OwnS w2 T u2 l2) (h2 : ∀ x ∈ ob u2, w1.heap.size ≤ x) (k2 : Mod [] w2 w3) (O3 : OwnS w3 T u3 l3) (h3 : ∀ x ∈ ob u3, w2.heap.size ≤ x) : Tri T w3 [u1, u2, u3] [l1.length, l2.length, l3.length] := by
  have s1 := k1.size
  have s2 := k2.size
  have a1 := fun x hx => Own.lt O1 x hx
  have a2 := fun x hx => Own.lt O2 x hx
  refine ⟨fun i v hi => ?_, fun i j v v' hi hj hij x hx hx' => ?_⟩
  · match i, hi with
    | 0, hi => injection hi with hi; subst hi; exact ⟨l1, Own.mod0 (Own.mod0 O1 k1) k2, rfl⟩
    | 1, hi => injection hi with hi; subst hi; exact ⟨l2, Own.mod0 O2 k2, rfl⟩
    | 2, hi => injection hi with hi; subst hi; exact ⟨l3, O3, rfl⟩
  · match i, j, hi, hj, hij with
    | 0, 0, _, _, h => exact h rfl
    | 1, 1, _, _, h => exact h rfl
    | 2, 2, _, _, h => exact h rfl
    | 0, 1, hi, hj, _ => injection hi with hi; injection hj with hj; subst hi; subst hj; have := a1 x hx; have := h2 x hx'; omega
    | 0, 2, hi, hj, _ => injection hi with hi; injection hj with hj; subst hi; subst hj; have := a1 x hx; have := h3 x hx'; omega
    | 1, 2, hi, hj, _ => injection hi with hi; injection hj with hj; subst hi; subst hj; have := a2 x hx; have := h3 x hx'; omega
    | 1, 0, hi, hj, _ => injection hi with hi; injection hj with hj; subst hi; subst hj; have := a1 x hx'; have := h2 x hx; omega
    | 2, 0, hi, hj, _ => injection hi with hi; injection hj with hj; subst hi; subst hj; have := a1 x hx'; have := h3 x hx; omega
    | 2, 1, hi, hj, _ => injection hi with hi; injection hj with hj; subst hi; subst hj; have := a2 x hx'; have := h3 x hx; omega
theorem ob_mem3 {us : List Value} {i : Nat} {u : Value} (hi : us[i]? = some u) : ∀ x ∈ ob u, x ∈ us.flatMap ob := fun x hx => List.mem_flatMap.2 ⟨u, List.mem_of_getElem? hi, hx⟩
end
end Go.Proofs.Ythmohmpalbnjoaa.V
