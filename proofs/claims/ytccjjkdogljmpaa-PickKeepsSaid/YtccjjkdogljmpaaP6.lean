/-
  A part of the proof: walks of functions, and the plain laws of what they compute. No condition of its own.
-/
import Derived.Test.YtccjjkdogljmpaaP5
set_option linter.unusedVariables false
set_option linter.unusedSimpArgs false
set_option maxRecDepth 10000
namespace Go.Proofs.Ytccjjkdogljmpaa.V
open Go Go.Proofs
theorem ent15 : Ent Try.prog 15 := Ent.of Try.func15 (by kernel_rfl) (by kernel_rfl)
theorem pl24 : plB Try.prog 24 [(0, 1), (1, 1), (2, 1)] = true := by kernel_rfl
theorem ent8 : Ent Try.prog 8 := Ent.of Try.func8 (by kernel_rfl) (by kernel_rfl)
theorem ent9 : Ent Try.prog 9 := Ent.of Try.func9 (by kernel_rfl) (by kernel_rfl)
theorem ent10 : Ent Try.prog 10 := Ent.of Try.func10 (by kernel_rfl) (by kernel_rfl)
theorem ent11 : Ent Try.prog 11 := Ent.of Try.func11 (by kernel_rfl) (by kernel_rfl)
theorem ent13 : Ent Try.prog 13 := Ent.of Try.func13 (by kernel_rfl) (by kernel_rfl)
theorem ent14 : Ent Try.prog 14 := Ent.of Try.func14 (by kernel_rfl) (by kernel_rfl)
theorem ent16 : Ent Try.prog 16 := Ent.of Try.func16 (by kernel_rfl) (by kernel_rfl)
theorem c_PickStates (A : List Nat) (w : World) (xs : List Slot) (v : Value) (R : Rep A w (slotsD xs) v) (s : Slot) (hB : ∀ x ∈ xs, Slot.small x) (hs : s.small) : Calls Try.prog 3 [v, s.agg].toArray w (Ret fun u w' => u = .bool true ∧ Mod [] w w') := by
  refine enter Try.func3 rfl rfl rfl (l := [(0, _), (1, _)]) ⟨rfl, rfl, trivial⟩ ?_
  have E := Mod.refl [] w
  refine c_seq fun K1 hK1 => ?_
  refine c_region ?_
  refine s_box rfl rfl rfl fun g1 w1 N1 => ?_
  have Lg1_E := N1.le E
  replace E := E.then N1.mod
  have Bg1 := N1.blk
  refine sv (o_as rfl) rfl ?_
  refine l_nil ?_
  refine e_K (hK1 _ _ _ _ ?_)
  refine c_seq fun K2 hK2 => ?_
  refine c_region ?_
  refine sv (o_build (cs := [_, _, _]) pl24 zv24 rfl rfl) rfl ?_
  refine sc (o_call ent8 rfl) (c_put [] _ [] _ (Rep.nilf _ _) ⟨[97], [], [36]⟩ rfl (by decide)) rfl fun v_ w2 h_ => ?_
  obtain ⟨Ox, Lx, E_⟩ := h_
  replace Bg1 := Bg1.mod0 E_
  replace E := E.then E_
  replace Ox := Ox.same (m := 1) (us := [S [97], S [], S [36]]) rfl rfl
  have RX : Rep [] w2 (slotsD [⟨[97], [], [36]⟩]) v_ := Own.slots [] Ox (by simp)
  obtain ⟨adx, cx, rfl, hcx1, hcx2⟩ := Ox.form
  obtain ⟨ax, hax, hcsx, _⟩ := flat_at (i := 0) RX rfl
  subst hax
  refine sv (o_as rfl) rfl ?_
  refine l_nil ?_
  refine e_K (hK2 _ _ _ _ ?_)
  refine c_seq fun K3 hK3 => ?_
  refine c_seq fun K4 hK4 => ?_
  refine c_region ?_
  refine sv (o_mv rfl) rfl ?_
  refine sv (o_len Try.underlying22 rfl) rfl ?_
  refine sv (o_neq rfl rfl) rfl ?_
  refine sv (o_mv rfl) rfl ?_
  refine sg rfl (rfl) (o_mv rfl) rfl ?_
  refine sg rfl (rfl) (o_ix sl22 rfl rfl (by omega)) rfl ?_
  refine sg rfl (rfl) (o_fad fd24_2 rfl) rfl ?_
  refine sg rfl (rfl) (o_ld sc9 rfl (hcsx 2 _ rfl)) rfl ?_
  refine sg rfl (rfl) (o_sne rfl rfl) rfl ?_
  refine sv (o_pickF (rfl) rfl rfl) rfl ?_
  refine l_nil ?_
  refine e_K (hK4 _ _ _ _ ?_)
  refine c_false rfl ?_
  refine c_skip ?_
  refine e_K (hK3 _ _ _ _ ?_)
  refine c_seq fun K5 hK5 => ?_
  refine c_seq fun K6 hK6 => ?_
  by_cases hs4_0 : 8192 < (xs.map wt).sum
  · skip
    refine c_region ?_
    refine sv (o_mv rfl) rfl ?_
    refine sc (o_call ent9 rfl) (c_long A _ xs _ (R.to0 E) hB) rfl fun v_ w3 h_ => ?_
    obtain ⟨rfl, E_⟩ := h_
    replace Bg1 := Bg1.mod0 E_
    replace E := E.then E_
    refine sv (o_mv rfl) rfl ?_
    refine sn rfl (fun e_ => absurd ((decide_eq_true hs4_0).symm.trans e_) (by decide)) rfl ?_
    refine sn rfl (fun e_ => absurd ((decide_eq_true hs4_0).symm.trans e_) (by decide)) rfl ?_
    refine sn rfl (fun e_ => absurd ((decide_eq_true hs4_0).symm.trans e_) (by decide)) rfl ?_
    refine sv (o_pickT (decide_eq_true hs4_0) rfl rfl) rfl ?_
    refine l_nil ?_
    refine e_K (hK6 _ _ _ _ ?_)
    refine c_true rfl ?_
    refine c_seq fun K7 hK7 => ?_
    refine c_region ?_
    refine sv (o_as rfl) rfl ?_
    refine l_nil ?_
    refine e_K (hK7 _ _ _ _ ?_)
    refine c_ret ?_
    refine e_then (by simp) ?_
    exact ret1 rfl rfl ⟨rfl, E⟩
  · skip
    have hn : xs.length ≤ 1000000 := by have := @sum_ge xs; omega
    refine c_region ?_
    refine sv (o_mv rfl) rfl ?_
    refine sc (o_call ent9 rfl) (c_long A _ xs _ (R.to0 E) hB) rfl fun v_ w4 h_ => ?_
    obtain ⟨rfl, E_⟩ := h_
    replace Bg1 := Bg1.mod0 E_
    replace E := E.then E_
    refine sv (o_mv rfl) rfl ?_
    refine sg rfl (decide_eq_false hs4_0) (o_lda (vs := [_, _, _]) ag24 rfl rfl (Bg1.cs rfl)) rfl ?_
    refine sgw rfl (decide_eq_false hs4_0) ?_
    refine s_bslice (cs := [_, _, _]) sl22 zv24 rfl rfl rfl (by decide) rfl fun g2 w5 N2 => ?_
    have Lg2_E := N2.le E
    have Dg1_g2 := N2.ne Bg1
    replace Bg1 := Bg1.mod0 N2.mod
    replace E := E.then N2.mod
    have Bg2 := N2.blk
    refine sgc rfl (decide_eq_false hs4_0) (o_call ent9 rfl) (c_long [] _ [s] _ (Own.slots [] (Own.all (cs := [_, _, _]) Bg2 rfl (by omega)) (by simp)) (fun x hx => by simp at hx; subst hx; exact hs)) rfl fun v_ w6 h_ => ?_
    obtain ⟨rfl, E_⟩ := h_
    replace Bg1 := Bg1.mod0 E_
    replace Bg2 := Bg2.mod0 E_
    replace E := E.then E_
    refine sv (o_pickF (decide_eq_false hs4_0) rfl rfl) rfl ?_
    refine l_nil ?_
    refine e_K (hK6 _ _ _ _ ?_)
    refine c_cond rfl (fun h29 => ?_) (fun h29 => ?_)
    · skip
      refine c_seq fun K8 hK8 => ?_
      refine c_region ?_
      refine sv (o_as rfl) rfl ?_
      refine l_nil ?_
      refine e_K (hK8 _ _ _ _ ?_)
      refine c_ret ?_
      refine e_then (by simp) ?_
      exact ret1 rfl rfl ⟨rfl, E⟩
    · skip
      refine c_skip ?_
      refine e_K (hK5 _ _ _ _ ?_)
      refine c_seq fun K9 hK9 => ?_
      refine c_seq fun K10 hK10 => ?_
      refine c_region ?_
      refine sv (o_mv rfl) rfl ?_
      refine sc (o_call ent10 rfl) (c_good A _ xs _ (R.to0 E)) rfl fun v_ w7 h_ => ?_
      obtain ⟨rfl, E_⟩ := h_
      replace Bg1 := Bg1.mod0 E_
      replace Bg2 := Bg2.mod0 E_
      replace E := E.then E_
      refine sv (o_mv rfl) rfl ?_
      refine sc (o_call ent11 rfl) (c_goodR A _ xs _ (R.to0 E)) rfl fun v_ w8 h_ => ?_
      obtain ⟨rfl, E_⟩ := h_
      replace Bg1 := Bg1.mod0 E_
      replace Bg2 := Bg2.mod0 E_
      replace E := E.then E_
      refine sv (o_bsne Try.underlying4 rfl rfl) rfl ?_
      refine l_nil ?_
      refine e_K (hK10 _ _ _ _ ?_)
      refine c_cond rfl (fun h34 => ?_) (fun h34 => ?_)
      · skip
        simp at h34
      · skip
        refine c_skip ?_
        refine e_K (hK9 _ _ _ _ ?_)
        refine c_seq fun K11 hK11 => ?_
        refine c_seq fun K12 hK12 => ?_
        refine c_region ?_
        refine sv (o_mv rfl) rfl ?_
        refine sc (o_call ent11 rfl) (c_goodR A _ xs _ (R.to0 E)) rfl fun v_ w9 h_ => ?_
        obtain ⟨rfl, E_⟩ := h_
        replace Bg1 := Bg1.mod0 E_
        replace Bg2 := Bg2.mod0 E_
        replace E := E.then E_
        refine sv (o_not rfl) rfl ?_
        refine l_nil ?_
        refine e_K (hK12 _ _ _ _ ?_)
        refine c_cond rfl (fun h37 => ?_) (fun h37 => ?_)
        · skip
          refine c_seq fun K13 hK13 => ?_
          refine c_region ?_
          refine sv (o_as rfl) rfl ?_
          refine l_nil ?_
          refine e_K (hK13 _ _ _ _ ?_)
          refine c_ret ?_
          refine e_then (by simp) ?_
          exact ret1 rfl rfl ⟨rfl, E⟩
        · skip
          have ha : asc xs = true := by simpa using h37
          refine c_skip ?_
          refine e_K (hK11 _ _ _ _ ?_)
          refine c_seq fun K14 hK14 => ?_
          refine c_region ?_
          refine sv (o_lda (vs := [_, _, _]) ag24 rfl rfl (Bg1.cs rfl)) rfl ?_
          refine sc (o_call ent12 rfl) (c_Of _ s) rfl fun v_ w10 h_ => ?_
          obtain ⟨rfl, E_⟩ := h_
          replace Bg1 := Bg1.mod0 E_
          replace Bg2 := Bg2.mod0 E_
          replace E := E.then E_
          refine s_alloc zv28 rfl fun g3 w11 N3 => ?_
          have Lg3_E := N3.le E
          have Dg1_g3 := N3.ne Bg1
          have Dg2_g3 := N3.ne Bg2
          replace Bg1 := Bg1.mod0 N3.mod
          replace Bg2 := Bg2.mod0 N3.mod
          replace E := E.then N3.mod
          have Bg3 := N3.blk
          refine s_sta (vs := [_, _]) ag28 Bg3 rfl rfl rfl (by simp [Value.oneCell']) (by simp) fun w12 P12 => ?_
          replace Bg1 := Bg1.ne P12.mod (Ne.symm (Ne.symm Dg1_g3))
          replace Bg2 := Bg2.ne P12.mod (Ne.symm (Ne.symm Dg2_g3))
          replace E := E.own P12.mod Lg3_E
          replace Bg3 : Blk w12 g3 _ [_, _] := P12.blk
          refine l_nil ?_
          refine e_K (hK14 _ _ _ _ ?_)
          refine c_seq fun K15 hK15 => ?_
          refine c_region ?_
          refine sv (o_mv rfl) rfl ?_
          refine sv (o_lda (vs := [_, _]) ag28 rfl rfl (Bg3.cs rfl)) rfl ?_
          refine sc (o_call ent13 rfl) (c_get A _ xs _ (R.to0 E) s.pair ha hn) rfl fun v_ w13 h_ => ?_
          obtain ⟨rfl, E_⟩ := h_
          replace Bg1 := Bg1.mod0 E_
          replace Bg2 := Bg2.mod0 E_
          replace Bg3 := Bg3.mod0 E_
          replace E := E.then E_
          refine sv (o_mv rfl) rfl ?_
          refine sv (o_ext rfl rfl) rfl ?_
          refine sv (o_ext rfl rfl) rfl ?_
          refine sv (o_as rfl) rfl ?_
          refine sv (o_as rfl) rfl ?_
          refine l_nil ?_
          refine e_K (hK15 _ _ _ _ ?_)
          refine c_seq fun K16 hK16 => ?_
          refine c_region ?_
          refine sv (o_mv rfl) rfl ?_
          refine sv (o_lda (vs := [_, _]) ag28 rfl rfl (Bg3.cs rfl)) rfl ?_
          refine sc (o_call ent14 rfl) (c_getR A _ xs _ (R.to0 E) s.pair) rfl fun v_ w14 h_ => ?_
          obtain ⟨rfl, E_⟩ := h_
          replace Bg1 := Bg1.mod0 E_
          replace Bg2 := Bg2.mod0 E_
          replace Bg3 := Bg3.mod0 E_
          replace E := E.then E_
          refine sv (o_mv rfl) rfl ?_
          refine sv (o_ext rfl rfl) rfl ?_
          refine sv (o_ext rfl rfl) rfl ?_
          refine sv (o_as rfl) rfl ?_
          refine sv (o_as rfl) rfl ?_
          refine l_nil ?_
          refine e_K (hK16 _ _ _ _ ?_)
          refine c_seq fun K17 hK17 => ?_
          refine c_draw wide (by kernel_rfl) ?_
          refine tv (fun w_ E_ => (o_mv rfl)) rfl rfl ?_
          refine tv (fun w_ E_ => (o_mv rfl)) rfl rfl ?_
          refine tv (fun w_ E_ => ((o_seq rfl rfl).to (by rw [decide_eq_true rfl]))) rfl rfl ?_
          refine tv (fun w_ E_ => (o_mv rfl)) rfl rfl ?_
          refine tvg rfl (rfl) (fun w_ E_ => (o_mv rfl)) rfl rfl ?_
          refine tvg rfl (rfl) (fun w_ E_ => (o_mv rfl)) rfl rfl ?_
          refine tvg rfl (rfl) (fun w_ E_ => ((o_bseq Try.underlying4 rfl rfl).to (by rw [beq_self_eq_true]))) rfl rfl ?_
          refine tv (fun w_ E_ => (o_pickT (rfl) rfl rfl)) rfl rfl ?_
          refine tv (fun w_ E_ => (o_mv rfl)) rfl rfl ?_
          refine tvg rfl (rfl) (fun w_ E_ => (o_mv rfl)) rfl rfl ?_
          refine tvg rfl (rfl) (fun w_ E_ => (o_lda (vs := [_, _, _]) ag24 rfl rfl ((Bg1.mod0 E_).cs rfl))) rfl rfl ?_
          refine tcrg (fun u w2 => Own w2 24 3 u (putS xs s).length (((putS xs s).map Slot.cells).flatten)) (fun v w1 w2 k h => h.mod0 k) rfl rfl (fun w_ E_ => o_call ent8 rfl) (fun w_ E_ => Calls.imp (c_put A _ xs _ (R.to0 (E.then E_)) s ha hn) fun u w' h => ⟨h.1, h.2.2⟩) rfl rfl rfl ?_
          refine tvg rfl (rfl) (fun w_ E_ => (o_mv rfl)) rfl rfl ?_
          refine tvg rfl (rfl) (fun w_ E_ => (o_lda (vs := [_, _, _]) ag24 rfl rfl ((Bg1.mod0 E_).cs rfl))) rfl rfl ?_
          refine tcrg (fun u w2 => Own w2 24 3 u (putS xs s).length (((putS xs s).map Slot.cells).flatten)) (fun v w1 w2 k h => h.mod0 k) rfl rfl (fun w_ E_ => o_call ent16 rfl) (fun w_ E_ => Calls.imp (c_putR A _ xs _ (R.to0 (E.then E_)) s hn) fun u w' h => ⟨h.1, h.2.2⟩) rfl rfl rfl ?_
          refine tc2g (v := .bool true) 63 66 rfl rfl rfl rfl ⟨_, List.Mem.tail _ (List.Mem.head _), rfl⟩ rfl rfl ⟨_, List.Mem.tail _ (List.Mem.tail _ (List.Mem.head _)), rfl⟩ (fun w_ u u' E_ h h' => o_call ent15 rfl) (fun w_ u u' E_ h h' => Calls.imp (c_sameR [] _ _ _ _ _ (Own.slots [] h (by simp)) (Own.slots [] h' (by simp))) fun r w' hr => ⟨hr.1.trans (by rw [decide_eq_true rfl]), hr.2⟩) rfl rfl ?_
          refine tv (fun w_ E_ => (o_pickT (rfl) rfl rfl)) rfl rfl ?_
          refine tv (fun w_ E_ => (o_as rfl)) rfl rfl ?_
          refine tw_nil rfl fun w15 E_ => ?_
          replace Bg1 := Bg1.mod0 E_
          replace Bg2 := Bg2.mod0 E_
          replace Bg3 := Bg3.mod0 E_
          replace E := E.then E_
          refine e_K (hK17 _ _ _ _ ?_)
          refine c_ret ?_
          exact ret1 rfl rfl ⟨rfl, E⟩

end Go.Proofs.Ytccjjkdogljmpaa.V
