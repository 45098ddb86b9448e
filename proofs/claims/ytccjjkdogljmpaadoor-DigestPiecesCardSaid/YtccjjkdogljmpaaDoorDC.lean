/-
  A part of the proof: walks of functions, and the plain laws of what they compute. No condition of its own.
-/
import Derived.Test.YtccjjkdogljmpaaDoorDA
import Derived.Test.YtccjjkdogljmpaaDoorTR
set_option linter.unusedVariables false
set_option linter.unusedSimpArgs false
set_option maxRecDepth 10000
namespace Go.Proofs.YtccjjkdogljmpaaDoor.V
open Go Go.Proofs
theorem sl29 : slB Tryd.prog 29 22 1 24 = true := by kernel_rfl
theorem c_DigestPieces (A : List Nat) (w : World) (ps : List (List UInt8)) (v : Value) (R : Rep A w (psD ps) v) (hP : ∀ p ∈ ps, p.length ≤ 140737488351232) (hT : Cs w ⟨0, 0, none⟩ (numsK.map W4)) (hw0 : 0 < w.heap.size) : Calls Tryd.prog 5 [v].toArray w (Ret fun u w' => u = .bool true ∧ Mod [] w w') := by
  refine enter Tryd.func5 rfl rfl rfl (l := [(0, _)]) ⟨rfl, trivial⟩ ?_
  have E := Mod.refl [] w
  obtain ⟨ad, c, rfl, hc1, hc2⟩ := ps_len R
  refine c_seq fun K1 hK1 => ?_
  refine c_region ?_
  refine sv (o_as rfl) rfl ?_
  refine l_nil ?_
  refine e_K (hK1 _ _ _ _ ?_)
  refine c_seq fun K2 hK2 => ?_
  refine c_seq fun K3 hK3 => ?_
  refine c_region ?_
  refine sc (o_call ent8 rfl) (c_alive _ (hT.mod0 E) (Nat.lt_of_lt_of_le hw0 E.size)) rfl fun v_ w1 h_ => ?_
  obtain ⟨rfl, E_⟩ := h_
  replace E := E.then E_
  refine sv (o_not rfl) rfl ?_
  refine l_nil ?_
  refine e_K (hK3 _ _ _ _ ?_)
  refine c_false rfl ?_
  refine c_skip ?_
  refine e_K (hK2 _ _ _ _ ?_)
  refine c_seq fun K4 hK4 => ?_
  refine c_region ?_
  have hszA := E.size
  refine sc (o_call ent11 rfl) (c_new _) rfl fun v_ w2 h_ => ?_
  obtain ⟨gh, rfl, Bgh, Lgh, E_⟩ := h_
  replace E := E.then E_
  have hghw : w.heap.size ≤ gh := by omega
  have hgh0 : gh ≠ 0 := by omega
  refine sv (o_as rfl) rfl ?_
  refine l_nil ?_
  refine e_K (hK4 _ _ _ _ ?_)
  refine c_seq fun K5 hK5 => ?_
  refine c_region ?_
  refine sv (o_as rfl) rfl ?_
  refine l_nil ?_
  refine e_K (hK5 _ _ _ _ ?_)
  refine c_seq fun K6 hK6 => ?_
  refine c_seq fun K7 hK7 => ?_
  refine c_region ?_
  refine sv (o_mv rfl) rfl ?_
  refine sv (o_len Tryd.underlying29 rfl) rfl ?_
  refine sv (o_mv rfl) rfl ?_
  refine l_nil ?_
  refine e_K (hK7 _ _ _ _ ?_)
  refine c_block ?_
  refine c_loop (σ := Nat × Nat × Value × Value) (fun ⟨k, K, wv, av⟩ => [(0, .slice ad ps.length c), (3, .pointer (some ⟨gh, 0, none⟩)), (4, av), (10, .slice ad ps.length c), (11, .int .i64 ps.length), (12, .int .i64 (k : Int))]) (fun ⟨k, K, wv, av⟩ w1 => k ≤ ps.length ∧ (allP ps k).length ≤ 8192 ∧ 64 * K ≤ (allP ps k).length ∧ (allP ps k).length < 64 * K + 64 ∧ Blk w1 gh 53 ((abs64 s8of (allP ps k) K).cells ++ [wv, .int .u64 ((allP ps k).length : Int)]) ∧ Own w1 5 1 wv ((allP ps k).length - 64 * K) ((((allP ps k).drop (64 * K)).map bcells).flatten) ∧ Own w1 5 1 av (allP ps k).length (((allP ps k).map bcells).flatten) ∧ (∀ x ∈ ob wv, x ≠ gh ∧ w.heap.size ≤ x) ∧ (∀ x ∈ ob av, x ≠ gh ∧ w.heap.size ≤ x) ∧ (∀ x ∈ ob av, ∀ y ∈ ob wv, x ≠ y) ∧ Mod [] w w1) (fun ⟨k, K, wv, av⟩ => ps.length - k) (⟨0, 0, .slice none 0 0, .slice none 0 0⟩) ⟨rfl, rfl, rfl, rfl, rfl, rfl, trivial⟩ (⟨by omega, by simp [allP], by simp [allP], by simp [allP], Bgh, Own.nil _ 5 1, Own.nil _ 5 1, by simp [ob], by simp [ob], by simp [ob], E⟩) ?_
  rintro ⟨k, K, wv, av⟩ w3 ⟨hk, hal, hK1, hK2, Bgh, Ow, Oa, Dw, Da, Daw, E⟩
  obtain ⟨ada, ca, rfl, ht1, ht2⟩ := Oa.form
  refine c_seq fun K8 hK8 => ?_
  refine c_region ?_
  refine sv (o_lss rfl rfl) rfl ?_
  refine l_nil ?_
  refine e_K (hK8 _ _ _ _ ?_)
  refine c_seq fun K9 hK9 => ?_
  refine c_if rfl (fun h13 => ?_) (fun h13 => ?_)
  · skip
    have hlt : k < ps.length := by omega
    obtain ⟨p, hp⟩ : ∃ p, ps[k]? = some p := ⟨_, List.getElem?_eq_getElem hlt⟩
    obtain ⟨a_p, adp, cp, ha_p, hpc0, hRp, hp1, hp2⟩ := ps_at R hp
    have hpl := hP p (List.mem_of_getElem? hp)
    have hpc := cell_to0 hpc0 E
    subst ha_p
    refine c_skip ?_
    refine e_K (hK9 _ _ _ _ ?_)
    refine c_seq fun K10 hK10 => ?_
    refine c_block ?_
    refine c_seq fun K11 hK11 => ?_
    refine c_region ?_
    refine sv (o_ix sl29 rfl rfl (by omega)) rfl ?_
    refine sv (o_ld sc22 rfl hpc) rfl ?_
    refine sv (o_as rfl) rfl ?_
    refine l_nil ?_
    refine e_K (hK11 _ _ _ _ ?_)
    refine c_seq fun K12 hK12 => ?_
    refine c_seq fun K13 hK13 => ?_
    by_cases hs8_0 : ((allP ps k).length : Int) + p.length > 8192
    · skip
      refine c_region ?_
      refine sv (o_mv rfl) rfl ?_
      refine sv (o_len Tryd.underlying22 rfl) rfl ?_
      refine sv (o_mv rfl) rfl ?_
      refine sv (o_len Tryd.underlying22 rfl) rfl ?_
      refine sv (o_addN rfl rfl (by omega)) rfl ?_
      refine sv (o_gtr rfl rfl) rfl ?_
      refine sv (o_mv rfl) rfl ?_
      refine sn rfl (fun e_ => absurd ((decide_eq_true hs8_0).symm.trans e_) (by decide)) rfl ?_
      refine sn rfl (fun e_ => absurd ((decide_eq_true hs8_0).symm.trans e_) (by decide)) rfl ?_
      refine sn rfl (fun e_ => absurd ((decide_eq_true hs8_0).symm.trans e_) (by decide)) rfl ?_
      refine sv (o_pickT (decide_eq_true hs8_0) rfl rfl) rfl ?_
      refine l_nil ?_
      refine e_K (hK13 _ _ _ _ ?_)
      refine c_true rfl ?_
      refine c_seq fun K14 hK14 => ?_
      refine c_region ?_
      refine sv (o_as rfl) rfl ?_
      refine l_nil ?_
      refine e_K (hK14 _ _ _ _ ?_)
      refine c_ret ?_
      refine e_then (by simp) ?_
      refine e_in (by simp) ?_
      refine e_then (by simp) ?_
      refine e_then (by simp) ?_
      refine e_in (by simp) ?_
      refine e_then (by simp) ?_
      exact ret1 rfl rfl ⟨rfl, E⟩
    · skip
      refine c_region ?_
      refine sv (o_mv rfl) rfl ?_
      refine sv (o_len Tryd.underlying22 rfl) rfl ?_
      refine sv (o_mv rfl) rfl ?_
      refine sv (o_len Tryd.underlying22 rfl) rfl ?_
      refine sv (o_addN rfl rfl (by omega)) rfl ?_
      refine sv (o_gtr rfl rfl) rfl ?_
      refine sv (o_mv rfl) rfl ?_
      refine sg rfl (decide_eq_false hs8_0) (o_mv rfl) rfl ?_
      refine sg rfl (decide_eq_false hs8_0) (o_len Tryd.underlying29 rfl) rfl ?_
      refine sg rfl (decide_eq_false hs8_0) (o_gtr rfl rfl) rfl ?_
      refine sv (o_pickF (decide_eq_false hs8_0) rfl rfl) rfl ?_
      refine l_nil ?_
      refine e_K (hK13 _ _ _ _ ?_)
      refine c_if rfl (fun h26 => ?_) (fun h26 => ?_)
      · skip
        refine c_seq fun K15 hK15 => ?_
        refine c_region ?_
        refine sv (o_as rfl) rfl ?_
        refine l_nil ?_
        refine e_K (hK15 _ _ _ _ ?_)
        refine c_ret ?_
        refine e_then (by simp) ?_
        refine e_in (by simp) ?_
        refine e_then (by simp) ?_
        refine e_then (by simp) ?_
        refine e_in (by simp) ?_
        refine e_then (by simp) ?_
        exact ret1 rfl rfl ⟨rfl, E⟩
      · skip
        refine c_skip ?_
        refine e_K (hK12 _ _ _ _ ?_)
        refine c_seq fun K16 hK16 => ?_
        refine c_region ?_
        have hghl := Bgh.lt
        refine sv (o_mv rfl) rfl ?_
        refine sv (o_mv rfl) rfl ?_
        have hszB := E.size
        refine s_append sl22 rfl rfl Oa (Src.flat Tryd.underlying22 (hRp.to0 E)) (by decide) (by omega) (by omega) rfl fun av2 wA AA => ?_
        replace Bgh := Bgh.mod AA.mod (fun hx => (Da _ hx).1 rfl)
        have hwl := Ow.lt
        replace Ow := Ow.mod AA.mod (fun x hx hx2 => Daw x hx2 x hx rfl)
        have Dav : ∀ x ∈ ob av2, x ≠ gh ∧ w.heap.size ≤ x := fun x hx => (AA.ob_ x hx).elim (fun h => Da x h) (fun h => ⟨fun e => by have := hghl; omega, by omega⟩)
        have Davw : ∀ x ∈ ob av2, ∀ y ∈ ob wv, x ≠ y := fun x hx y hy e => (AA.ob_ x hx).elim (fun h => Daw x h y hy e) (fun h => by have := hwl y hy; omega)
        replace E := E.trans' AA.mod (fun x hx => .inr (Da x hx).2)
        clear Oa
        have Oa := AA.own.as (m := (allP ps k ++ p).length) (us := (((allP ps k ++ p).map bcells).flatten)) (by rw [List.length_append]) (by simp)
        refine sv (o_as rfl) rfl ?_
        refine l_nil ?_
        refine e_K (hK16 _ _ _ _ ?_)
        refine c_seq fun K17 hK17 => ?_
        refine c_region ?_
        refine sv (o_mv rfl) rfl ?_
        refine sv (o_mv rfl) rfl ?_
        have hszC := E.size
        refine sc (o_call ent12 rfl) (c_write (gh :: ob wv) _ (abs64 s8of (allP ps k) K) ((allP ps k).drop (64 * K)) p ((allP ps k).length : Int) gh wv _ Bgh (Ow.as (by rw [List.length_drop]) rfl) (fun x hx => (Dw x hx).1) (fun x hx => by have := (Dw x hx).2; omega) (hT.mod0 E) hgh0 ((hRp.more (A' := gh :: ob wv) (fun x hx => .inr (by rcases List.mem_cons.1 hx with h | h; exact h ▸ hghw; exact (Dw x h).2))).to0 E) (fun x hx => hx) (by rw [List.length_drop]; omega) (by omega) Bgh.lt) rfl fun v_ w4 h_ => ?_
        obtain ⟨k2, wv2, hq1, hq2, Bgh2, Ow2, Dw2, Hw2, Ew⟩ := h_
        rw [List.length_append, List.length_drop] at hq1 hq2 Ow2
        rw [abs64_join hK1] at Bgh2
        rw [drop_join hK1] at Ow2
        have hla : (allP ps k ++ p).length = (allP ps k).length + p.length := List.length_append
        have hav := Oa.lt
        replace Oa := Oa.mod Ew (fun x hx hx2 => by rcases List.mem_cons.1 hx2 with h | h; exact (Dav x hx).1 h; exact Davw x hx x h rfl)
        replace E := E.trans' Ew (fun x hx => .inr (by rcases List.mem_cons.1 hx with h | h; exact h ▸ hghw; exact (Dw x h).2))
        have Dw3 : ∀ x ∈ ob wv2, x ≠ gh ∧ w.heap.size ≤ x := fun x hx => ⟨Dw2 x hx, (Hw2 x hx).elim (fun h => (Dw x h).2) (fun h => by have := hszC; omega)⟩
        have Daw3 : ∀ x ∈ ob av2, ∀ y ∈ ob wv2, x ≠ y := fun x hx y hy e => (Hw2 y hy).elim (fun h => Davw x hx y h e) (fun h => by have := hav x hx; omega)
        have Bgh := Bgh2
        rw [show ((allP ps k).length : Int) + p.length = (((allP ps k ++ p).length : Nat) : Int) by rw [hla]; omega] at Bgh
        have Ow := Ow2.as (m := (allP ps k ++ p).length - 64 * (K + k2)) (by omega) rfl
        refine l_nil ?_
        refine e_K (hK17 _ _ _ _ ?_)
        refine c_seq fun K18 hK18 => ?_
        refine c_region ?_
        refine sv (o_mv rfl) rfl ?_
        refine sc (o_call ent13 rfl) (Calls.imp (ψ := fun u w' => u = .agg ((sha (allP ps k ++ p)).map B8).toArray ∧ Mod [] _ w') (c_sum _ (abs64 s8of (allP ps k ++ p) (K + k2)) ((allP ps k ++ p).drop (64 * (K + k2))) (allP ps k ++ p).length gh _ Bgh (Ow.as (by rw [List.length_drop]) rfl) (hT.mod0 E) (Nat.lt_of_lt_of_le hw0 E.size) (by rw [List.length_drop]; omega) (by omega)) fun u w' h => ⟨h.1.trans (by rw [sha_sum (by omega) (by omega)]), h.2⟩) rfl fun v_ w5 h_ => ?_
        obtain ⟨rfl, E_⟩ := h_
        replace Bgh := Bgh.mod0 E_
        replace E := E.then E_
        replace Ow := Ow.mod0 E_
        replace Oa := Oa.mod0 E_
        refine sv (o_mv rfl) rfl ?_
        have RB := Own.byts [] Oa rfl (by simp)
        refine sc (o_call ent9 rfl) (c_of [] _ (allP ps k ++ p) _ RB (hT.mod0 E) (Nat.lt_of_lt_of_le hw0 E.size) (by omega)) rfl fun v_ w6 h_ => ?_
        obtain ⟨rfl, E_⟩ := h_
        replace Bgh := Bgh.mod0 E_
        replace E := E.then E_
        replace Ow := Ow.mod0 E_
        replace Oa := Oa.mod0 E_
        refine sv ((o_arne ar24 Tryd.underlying5 rfl (by kernel_rfl) rfl rfl (outB_len _ _) (outB_len _ _)).to (v' := .bool false) (by simp)) rfl ?_
        refine l_nil ?_
        refine e_K (hK18 _ _ _ _ ?_)
        refine c_false rfl ?_
        refine c_skip ?_
        refine e_in (by simp) ?_
        refine e_K (hK10 _ _ _ _ ?_)
        refine c_region ?_
        refine sv (o_addN rfl rfl (by omega)) rfl ?_
        refine sv (o_mv rfl) rfl ?_
        refine l_nil ?_
        exact e_round (σ := Nat × Nat × Value × Value) (s := ⟨k, K, wv, .slice ada (allP ps k).length ca⟩) (⟨k + 1, K + k2, wv2, av2⟩) ⟨rfl, rfl, rfl, rfl, rfl, rfl, trivial⟩ (by dsimp only; rw [allP_succ hp]; exact ⟨by omega, by omega, by omega, by omega, Bgh, Ow, Oa, Dw3, Dav, Daw3, E⟩) (by dsimp only; omega)
  · skip
    refine c_exit ?_
    refine e_then (by simp) ?_
    refine e_then (by simp) ?_
    refine e_hit ?_
    refine e_K (hK6 _ _ _ _ ?_)
    refine c_seq fun K19 hK19 => ?_
    refine c_region ?_
    refine sv (o_mv rfl) rfl ?_
    refine sc (o_call ent13 rfl) (Calls.imp (ψ := fun u w' => u = .agg ((sha (allP ps k)).map B8).toArray ∧ Mod [] _ w') (c_sum _ (abs64 s8of (allP ps k) (K)) ((allP ps k).drop (64 * (K))) (allP ps k).length gh _ Bgh (Ow.as (by rw [List.length_drop]) rfl) (hT.mod0 E) (Nat.lt_of_lt_of_le hw0 E.size) (by rw [List.length_drop]; omega) (by omega)) fun u w' h => ⟨h.1.trans (by rw [sha_sum (by omega) (by omega)]), h.2⟩) rfl fun v_ w7 h_ => ?_
    obtain ⟨rfl, E_⟩ := h_
    replace Bgh := Bgh.mod0 E_
    replace E := E.then E_
    replace Ow := Ow.mod0 E_
    replace Oa := Oa.mod0 E_
    refine sv (o_mv rfl) rfl ?_
    have RB := Own.byts [] Oa rfl (by simp)
    refine sc (o_call ent9 rfl) (c_of [] _ (allP ps k) _ RB (hT.mod0 E) (Nat.lt_of_lt_of_le hw0 E.size) (by omega)) rfl fun v_ w8 h_ => ?_
    obtain ⟨rfl, E_⟩ := h_
    replace Bgh := Bgh.mod0 E_
    replace E := E.then E_
    replace Ow := Ow.mod0 E_
    replace Oa := Oa.mod0 E_
    refine sv ((o_areq ar24 Tryd.underlying5 rfl (by kernel_rfl) rfl rfl (outB_len _ _) (outB_len _ _)).to (v' := .bool true) (by simp)) rfl ?_
    refine sv (o_as rfl) rfl ?_
    refine l_nil ?_
    refine e_K (hK19 _ _ _ _ ?_)
    refine c_ret ?_
    exact ret1 rfl rfl ⟨rfl, E⟩

end Go.Proofs.YtccjjkdogljmpaaDoor.V
