/-
  A part of the proof: walks of functions, and the plain laws of what they compute. No condition of its own.
-/
import Derived.Test.YtccjjkdogljmpaaPA
set_option linter.unusedVariables false
set_option linter.unusedSimpArgs false
set_option maxRecDepth 10000
namespace Go.Proofs.Ytccjjkdogljmpaa.V
open Go Go.Proofs
theorem ent25 : Ent Try.prog 25 := Ent.of Try.func25 (by kernel_rfl) (by kernel_rfl)
theorem c_PickKeeps (A : List Nat) (w : World) (xs : List Slot) (v : Value) (R : Rep A w (slotsD xs) v) (s : Slot) (hB : ∀ x ∈ xs, Slot.small x) (hs : s.small) : Calls Try.prog 7 [v, s.agg].toArray w (Ret fun u w' => u = .bool true ∧ Mod [] w w') := by
  refine enter Try.func7 rfl rfl rfl (l := [(0, _), (1, _)]) ⟨rfl, rfl, trivial⟩ ?_
  have E := Mod.refl [] w
  obtain ⟨ad, c, rfl, hc1, hc2⟩ := flat_len R
  refine c_seq fun K1 hK1 => ?_
  refine c_region ?_
  refine s_box rfl rfl rfl fun g1 w1 N1 => ?_
  have Lg1_E := N1.le E
  replace E := E.then N1.mod
  have Bg1 := N1.blk
  refine sv (o_as rfl) rfl ?_
  refine l_nil ?_
  refine e_K (hK1 _ _ _ _ ?_)
  refine c_seq fun K2 hK2 => ?_
  refine c_seq fun K3 hK3 => ?_
  refine c_region ?_
  refine sc (o_call ent25 rfl) (c_alive _) rfl fun v_ w2 h_ => ?_
  obtain ⟨rfl, E_⟩ := h_
  replace Bg1 := Bg1.mod0 E_
  replace E := E.then E_
  refine sv (o_not rfl) rfl ?_
  refine l_nil ?_
  refine e_K (hK3 _ _ _ _ ?_)
  refine c_false rfl ?_
  refine c_skip ?_
  refine e_K (hK2 _ _ _ _ ?_)
  refine c_seq fun K4 hK4 => ?_
  refine c_seq fun K5 hK5 => ?_
  by_cases hs3_0 : 8192 < (xs.map wt).sum
  · skip
    refine c_region ?_
    have hg1lt0 := Bg1.lt
    refine sv (o_mv rfl) rfl ?_
    refine sc (o_call ent9 rfl) (c_long A _ xs _ (R.to0 E) hB) rfl fun v_ w3 h_ => ?_
    obtain ⟨rfl, E_⟩ := h_
    replace Bg1 := Bg1.mod0 E_
    replace E := E.then E_
    refine sv (o_mv rfl) rfl ?_
    refine sn rfl (fun e_ => absurd ((decide_eq_true hs3_0).symm.trans e_) (by decide)) rfl ?_
    refine sn rfl (fun e_ => absurd ((decide_eq_true hs3_0).symm.trans e_) (by decide)) rfl ?_
    refine sn rfl (fun e_ => absurd ((decide_eq_true hs3_0).symm.trans e_) (by decide)) rfl ?_
    refine sv (o_pickT (decide_eq_true hs3_0) rfl rfl) rfl ?_
    refine sv (o_mv rfl) rfl ?_
    refine sn rfl (fun e_ => absurd ((rfl).symm.trans e_) (by decide)) rfl ?_
    refine sn rfl (fun e_ => absurd ((rfl).symm.trans e_) (by decide)) rfl ?_
    refine sn rfl (fun e_ => absurd ((rfl).symm.trans e_) (by decide)) rfl ?_
    refine sv (o_pickT (rfl) rfl rfl) rfl ?_
    refine l_nil ?_
    refine e_K (hK5 _ _ _ _ ?_)
    refine c_true rfl ?_
    refine c_seq fun K6 hK6 => ?_
    refine c_region ?_
    refine sv (o_as rfl) rfl ?_
    refine l_nil ?_
    refine e_K (hK6 _ _ _ _ ?_)
    refine c_ret ?_
    refine e_then (by simp) ?_
    exact ret1 rfl rfl ⟨rfl, E⟩
  · skip
    have hn : xs.length ≤ 1000000 := by have := @sum_ge xs; omega
    by_cases hs3_1 : 8192 < ([s].map wt).sum
    · skip
      refine c_region ?_
      have hg1lt0 := Bg1.lt
      refine sv (o_mv rfl) rfl ?_
      refine sc (o_call ent9 rfl) (c_long A _ xs _ (R.to0 E) hB) rfl fun v_ w4 h_ => ?_
      obtain ⟨rfl, E_⟩ := h_
      replace Bg1 := Bg1.mod0 E_
      replace E := E.then E_
      refine sv (o_mv rfl) rfl ?_
      refine sg rfl (decide_eq_false hs3_0) (o_lda (vs := [_, _, _]) ag24 rfl rfl (Bg1.cs rfl)) rfl ?_
      refine sgw rfl (decide_eq_false hs3_0) ?_
      refine s_bslice (cs := [_, _, _]) sl22 zv24 rfl rfl rfl (by decide) rfl fun g2 w5 N2 => ?_
      have Lg2_E := N2.le E
      have Dg1_g2 := N2.ne Bg1
      replace Bg1 := Bg1.mod0 N2.mod
      replace E := E.then N2.mod
      have Bg2 := N2.blk
      refine sgc rfl (decide_eq_false hs3_0) (o_call ent9 rfl) (c_long [] _ [s] _ (Own.slots [] (Own.all (cs := [_, _, _]) Bg2 rfl (by omega)) (by simp)) (fun x hx => by simp at hx; subst hx; exact hs)) rfl fun v_ w6 h_ => ?_
      obtain ⟨rfl, E_⟩ := h_
      replace Bg1 := Bg1.mod0 E_
      replace Bg2 := Bg2.mod0 E_
      replace E := E.then E_
      refine sv (o_pickF (decide_eq_false hs3_0) rfl rfl) rfl ?_
      refine sv (o_mv rfl) rfl ?_
      refine sn rfl (fun e_ => absurd ((decide_eq_true hs3_1).symm.trans e_) (by decide)) rfl ?_
      refine sn rfl (fun e_ => absurd ((decide_eq_true hs3_1).symm.trans e_) (by decide)) rfl ?_
      refine sn rfl (fun e_ => absurd ((decide_eq_true hs3_1).symm.trans e_) (by decide)) rfl ?_
      refine sv (o_pickT (decide_eq_true hs3_1) rfl rfl) rfl ?_
      refine l_nil ?_
      refine e_K (hK5 _ _ _ _ ?_)
      refine c_true rfl ?_
      refine c_seq fun K7 hK7 => ?_
      refine c_region ?_
      refine sv (o_as rfl) rfl ?_
      refine l_nil ?_
      refine e_K (hK7 _ _ _ _ ?_)
      refine c_ret ?_
      refine e_then (by simp) ?_
      exact ret1 rfl rfl ⟨rfl, E⟩
    · skip
      refine c_region ?_
      have hg1lt0 := Bg1.lt
      refine sv (o_mv rfl) rfl ?_
      refine sc (o_call ent9 rfl) (c_long A _ xs _ (R.to0 E) hB) rfl fun v_ w7 h_ => ?_
      obtain ⟨rfl, E_⟩ := h_
      replace Bg1 := Bg1.mod0 E_
      replace E := E.then E_
      refine sv (o_mv rfl) rfl ?_
      refine sg rfl (decide_eq_false hs3_0) (o_lda (vs := [_, _, _]) ag24 rfl rfl (Bg1.cs rfl)) rfl ?_
      refine sgw rfl (decide_eq_false hs3_0) ?_
      refine s_bslice (cs := [_, _, _]) sl22 zv24 rfl rfl rfl (by decide) rfl fun g3 w8 N3 => ?_
      have Lg3_E := N3.le E
      have Dg1_g3 := N3.ne Bg1
      replace Bg1 := Bg1.mod0 N3.mod
      replace E := E.then N3.mod
      have Bg3 := N3.blk
      refine sgc rfl (decide_eq_false hs3_0) (o_call ent9 rfl) (c_long [] _ [s] _ (Own.slots [] (Own.all (cs := [_, _, _]) Bg3 rfl (by omega)) (by simp)) (fun x hx => by simp at hx; subst hx; exact hs)) rfl fun v_ w9 h_ => ?_
      obtain ⟨rfl, E_⟩ := h_
      replace Bg1 := Bg1.mod0 E_
      replace Bg3 := Bg3.mod0 E_
      replace E := E.then E_
      refine sv (o_pickF (decide_eq_false hs3_0) rfl rfl) rfl ?_
      refine sv (o_mv rfl) rfl ?_
      refine sg rfl (decide_eq_false hs3_1) (o_mv rfl) rfl ?_
      refine sgc rfl (decide_eq_false hs3_1) (o_call ent11 rfl) (c_goodR A _ xs _ (R.to0 E)) rfl fun v_ w10 h_ => ?_
      obtain ⟨rfl, E_⟩ := h_
      replace Bg1 := Bg1.mod0 E_
      replace Bg3 := Bg3.mod0 E_
      replace E := E.then E_
      refine sg rfl (decide_eq_false hs3_1) (o_not rfl) rfl ?_
      refine sv (o_pickF (decide_eq_false hs3_1) rfl rfl) rfl ?_
      refine l_nil ?_
      refine e_K (hK5 _ _ _ _ ?_)
      refine c_cond rfl (fun h21 => ?_) (fun h21 => ?_)
      · skip
        refine c_seq fun K8 hK8 => ?_
        refine c_region ?_
        refine sv (o_as rfl) rfl ?_
        refine l_nil ?_
        refine e_K (hK8 _ _ _ _ ?_)
        refine c_ret ?_
        refine e_then (by simp) ?_
        exact ret1 rfl rfl ⟨rfl, E⟩
      · skip
        have ha : asc xs = true := by simpa using h21
        refine c_skip ?_
        refine e_K (hK4 _ _ _ _ ?_)
        refine c_seq fun K9 hK9 => ?_
        refine c_region ?_
        refine s_bslice (cs := []) sl22 zv24 rfl rfl rfl (by decide) rfl fun g4 w11 N4 => ?_
        have Lg4_E := N4.le E
        have Dg1_g4 := N4.ne Bg1
        have Dg3_g4 := N4.ne Bg3
        replace Bg1 := Bg1.mod0 N4.mod
        replace Bg3 := Bg3.mod0 N4.mod
        replace E := E.then N4.mod
        have Bg4 := N4.blk
        refine sv (o_mv rfl) rfl ?_
        have hg1lt := Bg1.lt
        refine s_append sl22 rfl rfl (Own.all (c := 0) (cs := []) Bg4 rfl (by omega)) (Src.flat Try.underlying22 (R.to0 E)) (by decide) (by omega) (by omega) rfl fun v1 w12 A1 => ?_
        have D1 : ∀ x ∈ ob v1, x ≠ g1 := fun x hx e => (A1.ob_ x hx).elim (fun h => by simp [ob] at h; exact (Ne.symm (Ne.symm Dg1_g4)) (e.symm.trans h)) (fun h => by omega)
        have L1 : ∀ x ∈ ob v1, w.heap.size ≤ x := fun x hx => (A1.ob_ x hx).elim (fun h => by simp [ob] at h; subst h; exact Lg4_E) (fun h => Nat.le_trans (Nat.le_trans Lg4_E (Nat.le_of_lt Bg4.lt)) h)
        replace E := E.trans' A1.mod (fun x hx => .inr (by simp [ob] at hx; subst hx; exact Lg4_E))
        have Om := A1.own.same (Nat.zero_add _) (List.nil_append _)
        replace Bg1 := Bg1.mod A1.mod (fun hx => (Ne.symm (Ne.symm Dg1_g4)) (by simpa [ob] using hx))
        refine sv (o_build (cs := [_, _, _]) pl24 zv24 rfl rfl) rfl ?_
        refine s_bslice (cs := [_, _, _]) sl22 zv24 rfl rfl rfl (by decide) rfl fun g5 w13 N5 => ?_
        have Lg5_E := N5.le E
        have Dg1_g5 := N5.ne Bg1
        have Dom_g5 := N5.own_ne Om
        replace Bg1 := Bg1.mod0 N5.mod
        replace E := E.then N5.mod
        replace Om := Om.mod0 N5.mod
        have Bg5 := N5.blk
        refine s_append sl22 rfl rfl Om (Src.own Try.underlying22 (Own.all (cs := [_, _, _]) Bg5 rfl (by omega)) (by simp [Value.oneCell'])) (by decide) (by omega) (by omega) rfl fun v1 w14 A1 => ?_
        have Dv1_g1 := A1.ne D1 Bg1
        have Dv1_g5 := A1.ne Dom_g5 Bg5
        have Lv1_E := A1.ge L1 E
        replace Bg1 := Bg1.mod A1.mod (fun hx => D1 _ hx rfl)
        replace Bg5 := Bg5.mod A1.mod (fun hx => Dom_g5 _ hx rfl)
        replace E := E.trans' A1.mod (fun x hx => .inr (L1 x hx))
        replace Om := A1.own
        replace Om := Om.snoc (x := ⟨[], [], spS⟩) rfl rfl
        rw [List.length_append, List.length_singleton] at Om
        rcases Om.2 with ⟨_, h0⟩ | ⟨gm, om, cm, csm, hvm, Bm, hm1, hm2, _, _⟩
        · omega
        rw [hvm] at Om 
        have Lm : w.heap.size ≤ gm := Lv1_E gm (by rw [hvm]; simp [ob])
        subst hvm
        refine sv (o_as rfl) rfl ?_
        refine l_nil ?_
        refine e_K (hK9 _ _ _ _ ?_)
        refine c_seq fun K10 hK10 => ?_
        refine c_drawp [] [0, 1, 2, 3, 4] 5 [6] wide (by kernel_rfl) (fun _ _ _ h => h.2) ?_
        refine pw_nil ?_
        refine tv (fun w_ E_ => (o_mv rfl)) rfl rfl ?_
        refine tv (fun w_ E_ => (o_mv rfl)) rfl rfl ?_
        refine tv (fun w_ E_ => (o_len Try.underlying22 rfl)) rfl rfl ?_
        refine tv (fun w_ E_ => (o_slto sl22 rfl rfl (by omega) (by omega))) rfl rfl ?_
        refine tv (fun w_ E_ => (o_lda (vs := [_, _, _]) ag24 rfl rfl ((Bg1.mod0 E_).cs rfl))) rfl rfl ?_
        refine tw_tail rfl fun w15 E_ => ?_
        replace Bg1 := Bg1.mod0 E_
        replace Bg5 := Bg5.mod0 E_
        replace E := E.then E_
        replace Om := Om.mod0 E_
        have OT := (Om.take (m := xs.length) (by omega)).same rfl (us := (xs.map Slot.cells).flatten) (by rw [flat_take_ (cells := Slot.cells) (fun _ => rfl)]; simp)
        have RT := Own.slots [] OT (by simp)
        have hgm := Om.lt gm (by simp [ob])
        have hsz := E.size
        refine sc (o_call ent8 rfl) (c_put [] _ xs _ RT s ha hn) rfl fun v_ w16 h_ => ?_
        obtain ⟨Oa, La, E_⟩ := h_
        replace Bg1 := Bg1.mod0 E_
        replace Bg5 := Bg5.mod0 E_
        replace E := E.then E_
        replace Om := Om.mod0 E_
        have Dm : ∀ x ∈ ob v_, x ≠ gm := fun x hx e => by have := La x hx; omega
        have Ll : ∀ x ∈ ob v_, w.heap.size ≤ x := fun x hx => by have := La x hx; omega
        obtain ⟨ada, ca, rfl, ha1, ha2⟩ := Oa.form
        refine sv (o_as rfl) rfl ?_
        refine l_nil ?_
        refine e_K (hK10 _ _ _ _ ?_)
        refine c_seq fun K11 hK11 => ?_
        refine c_seq fun K12 hK12 => ?_
        refine c_region ?_
        refine sv (o_mv rfl) rfl ?_
        refine sv (o_len Try.underlying22 rfl) rfl ?_
        refine sv (o_mv rfl) rfl ?_
        refine l_nil ?_
        refine e_K (hK12 _ _ _ _ ?_)
        refine c_block ?_
        refine c_loop (σ := Nat) (fun k => [(0, .slice ad xs.length c), (5, .slice (some ⟨gm, om, none⟩) (xs.length + 1) cm), (6, .slice ada (putS xs s).length ca), (34, .slice ada (putS xs s).length ca), (35, .int .i64 (putS xs s).length), (36, .int .i64 (k : Int))]) (fun k w1 => k ≤ (putS xs s).length ∧ (∃ vs, Own w1 24 3 (.slice ada (putS xs s).length ca) (putS xs s).length vs) ∧ Own w1 24 3 (.slice (some ⟨gm, om, none⟩) (xs.length + 1) cm) (xs.length + 1) (((xs ++ [(⟨[], [], spS⟩ : Slot)]).map Slot.cells).flatten) ∧ Mod [] w w1) (fun k => (putS xs s).length - k) (0) ⟨rfl, rfl, rfl, rfl, rfl, rfl, trivial⟩ (⟨by omega, ⟨_, Oa⟩, Om, E⟩) ?_
        rintro k w17 ⟨hk, ⟨vs, Oa⟩, Om, E⟩
        refine c_seq fun K13 hK13 => ?_
        refine c_region ?_
        refine sv (o_lss rfl rfl) rfl ?_
        refine l_nil ?_
        refine e_K (hK13 _ _ _ _ ?_)
        refine c_seq fun K14 hK14 => ?_
        refine c_if rfl (fun h37 => ?_) (fun h37 => ?_)
        · skip
          have hlt : k < (putS xs s).length := by omega
          obtain ⟨aa, rfl⟩ : ∃ a, ada = some a := by
            cases ada with
            | some a => exact ⟨a, rfl⟩
            | none => rcases Oa.2 with ⟨h0, h1⟩ | ⟨_, _, _, _, h0, _⟩; omega; cases h0
          refine c_skip ?_
          refine e_K (hK14 _ _ _ _ ?_)
          refine c_seq fun K15 hK15 => ?_
          refine c_block ?_
          refine c_seq fun K16 hK16 => ?_
          refine c_region ?_
          refine sv (o_mv rfl) rfl ?_
          refine sv (o_as rfl) rfl ?_
          refine l_nil ?_
          refine e_K (hK16 _ _ _ _ ?_)
          refine c_region ?_
          refine sv (o_mv rfl) rfl ?_
          refine sv (o_mv rfl) rfl ?_
          refine sv (o_build (cs := [_, _, _]) pl24 zv24 rfl rfl) rfl ?_
          refine sv (o_ix sl22 rfl rfl (by omega)) rfl ?_
          refine s_stown (us := [_, _, _]) ag24 Oa rfl rfl rfl (by simp [Value.oneCell']) (by omega) fun wS Oa2 ES hzS => ?_
          replace Om := Om.put ES (fun x hx => by simp [ob] at hx; subst hx; exact (Dm _ (by simp [ob])).symm)
          replace E := E.own ES (Ll _ (by simp [ob]))
          refine l_nil ?_
          refine e_in (by simp) ?_
          refine e_K (hK15 _ _ _ _ ?_)
          refine c_region ?_
          refine sv (o_addN rfl rfl (by omega)) rfl ?_
          refine sv (o_mv rfl) rfl ?_
          refine l_nil ?_
          exact e_round (σ := Nat) (s := k) (k + 1) ⟨rfl, rfl, rfl, rfl, rfl, rfl, trivial⟩ ⟨by omega, ⟨_, Oa2⟩, Om, E⟩ (by omega)
        · skip
          refine c_exit ?_
          refine e_then (by simp) ?_
          refine e_then (by simp) ?_
          refine e_hit ?_
          refine e_K (hK11 _ _ _ _ ?_)
          refine c_seq fun K17 hK17 => ?_
          refine c_region ?_
          refine sv (o_mv rfl) rfl ?_
          refine sv (o_mv rfl) rfl ?_
          refine sv (o_len Try.underlying22 rfl) rfl ?_
          refine sv (o_slto sl22 rfl rfl (by omega) (by omega)) rfl ?_
          refine sv (o_mv rfl) rfl ?_
          have OT := (Om.take (m := xs.length) (by omega)).same rfl (us := (xs.map Slot.cells).flatten) (by rw [flat_take_ (cells := Slot.cells) (fun _ => rfl)]; simp)
          have RT := Own.slots [] OT (by simp)
          refine sc (o_call ent15 rfl) (Calls.imp (ψ := fun u w' => u = .bool true ∧ Mod [] _ w') (c_sameR [] _ xs xs _ _ RT ((R.to0 E).anti (by simp))) fun u w' h => ⟨h.1.trans (by rw [decide_eq_true rfl]), h.2⟩) rfl fun v_ w18 h_ => ?_
          obtain ⟨rfl, E_⟩ := h_
          replace E := E.then E_
          replace Om := Om.mod0 E_
          replace Oa := Oa.mod0 E_
          refine sv (o_mv rfl) rfl ?_
          refine sg rfl (rfl) (o_mv rfl) rfl ?_
          refine sg rfl (rfl) (o_mv rfl) rfl ?_
          refine sg rfl (rfl) (o_len Try.underlying22 rfl) rfl ?_
          have RM : Rep [] _ (slotsD (xs ++ [(⟨[], [], spS⟩ : Slot)])) _ := Own.flat Om (fun _ _ => rfl) slots_one (by simp) (by simp)
          obtain ⟨am, ham, hcsm, _⟩ := flat_at (i := xs.length) RM (x := ⟨[], [], spS⟩) (by simp)
          injection ham with ham
          subst ham
          refine sg rfl (rfl) (o_ix sl22 rfl rfl (by omega)) rfl ?_
          refine sg rfl (rfl) (o_fad fd24_2 rfl) rfl ?_
          refine sg rfl (rfl) (o_ld sc9 rfl (hcsm 2 _ rfl)) rfl ?_
          refine sg rfl (rfl) ((o_seq rfl rfl).to (by rw [decide_eq_true]; rfl)) rfl ?_
          refine sv (o_pickT (rfl) rfl rfl) rfl ?_
          refine sv (o_as rfl) rfl ?_
          refine l_nil ?_
          refine e_K (hK17 _ _ _ _ ?_)
          refine c_ret ?_
          exact ret1 rfl rfl ⟨rfl, E⟩

end Go.Proofs.Ytccjjkdogljmpaa.V
