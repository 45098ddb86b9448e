/-
  A part of the proof: walks of functions, and the plain laws of what they compute. No condition of its own.
-/
import Derived.Test.YtccjjkdogljmpaaDoorTQ
set_option linter.unusedVariables false
set_option linter.unusedSimpArgs false
set_option maxRecDepth 10000
namespace Go.Proofs.YtccjjkdogljmpaaDoor.V
open Go Go.Proofs

theorem c_DigestKeeps (w : World) (a b : List UInt8) (va vb : Value) (Ra : Rep [] w (byD a) va) (Rb : Rep [] w (byD b) vb) (hT : Cs w ⟨0, 0, none⟩ (numsK.map W4)) (hw0 : 0 < w.heap.size) : Calls Tryd.prog 6 [va, vb].toArray w (Ret fun u w' => u = .bool true ∧ Mod [] w w') := by
  refine enter Tryd.func6 rfl rfl rfl (l := [(0, _), (1, _)]) ⟨rfl, rfl, trivial⟩ ?_
  have E := Mod.refl [] w
  obtain ⟨ada, ca, rfl, ha1, ha2⟩ := flat_len Ra
  obtain ⟨adb, cb, rfl, hb1, hb2⟩ := flat_len Rb
  refine c_seq fun K1 hK1 => ?_
  refine c_region ?_
  refine sv (o_as rfl) rfl ?_
  refine l_nil ?_
  refine e_K (hK1 _ _ _ _ ?_)
  refine c_seq fun K2 hK2 => ?_
  refine c_seq fun K3 hK3 => ?_
  refine c_region ?_
  refine sc (o_call ent8 rfl) (c_alive _ (hT.mod0 E) (Nat.lt_of_lt_of_le hw0 E.size)) rfl fun v_ w1 h_ => ?_
  obtain ⟨rfl, E_⟩ := h_
  replace E := E.then E_
  refine sv (o_not rfl) rfl ?_
  refine l_nil ?_
  refine e_K (hK3 _ _ _ _ ?_)
  refine c_false rfl ?_
  refine c_skip ?_
  refine e_K (hK2 _ _ _ _ ?_)
  refine c_seq fun K4 hK4 => ?_
  refine c_seq fun K5 hK5 => ?_
  by_cases hs3_0 : (a.length : Int) > 4096
  · skip
    refine c_region ?_
    refine sv (o_mv rfl) rfl ?_
    refine sv (o_len Tryd.underlying22 rfl) rfl ?_
    refine sv (o_gtr rfl rfl) rfl ?_
    refine sv (o_mv rfl) rfl ?_
    refine sn rfl (fun e_ => absurd ((decide_eq_true hs3_0).symm.trans e_) (by decide)) rfl ?_
    refine sn rfl (fun e_ => absurd ((decide_eq_true hs3_0).symm.trans e_) (by decide)) rfl ?_
    refine sn rfl (fun e_ => absurd ((decide_eq_true hs3_0).symm.trans e_) (by decide)) rfl ?_
    refine sv (o_pickT (decide_eq_true hs3_0) rfl rfl) rfl ?_
    refine l_nil ?_
    refine e_K (hK5 _ _ _ _ ?_)
    refine c_true rfl ?_
    refine c_seq fun K6 hK6 => ?_
    refine c_region ?_
    refine sv (o_as rfl) rfl ?_
    refine l_nil ?_
    refine e_K (hK6 _ _ _ _ ?_)
    refine c_ret ?_
    refine e_then (by simp) ?_
    exact ret1 rfl rfl ⟨rfl, E⟩
  · skip
    by_cases hs3_1 : (b.length : Int) > 4096
    · skip
      refine c_region ?_
      refine sv (o_mv rfl) rfl ?_
      refine sv (o_len Tryd.underlying22 rfl) rfl ?_
      refine sv (o_gtr rfl rfl) rfl ?_
      refine sv (o_mv rfl) rfl ?_
      refine sg rfl (decide_eq_false hs3_0) (o_mv rfl) rfl ?_
      refine sg rfl (decide_eq_false hs3_0) (o_len Tryd.underlying22 rfl) rfl ?_
      refine sg rfl (decide_eq_false hs3_0) (o_gtr rfl rfl) rfl ?_
      refine sv (o_pickF (decide_eq_false hs3_0) rfl rfl) rfl ?_
      refine l_nil ?_
      refine e_K (hK5 _ _ _ _ ?_)
      refine c_if rfl (fun h19 => ?_) (fun h19 => absurd hs3_1 h19)
      refine c_seq fun K7 hK7 => ?_
      refine c_region ?_
      refine sv (o_as rfl) rfl ?_
      refine l_nil ?_
      refine e_K (hK7 _ _ _ _ ?_)
      refine c_ret ?_
      refine e_then (by simp) ?_
      exact ret1 rfl rfl ⟨rfl, E⟩
    · skip
      refine c_region ?_
      refine sv (o_mv rfl) rfl ?_
      refine sv (o_len Tryd.underlying22 rfl) rfl ?_
      refine sv (o_gtr rfl rfl) rfl ?_
      refine sv (o_mv rfl) rfl ?_
      refine sg rfl (decide_eq_false hs3_0) (o_mv rfl) rfl ?_
      refine sg rfl (decide_eq_false hs3_0) (o_len Tryd.underlying22 rfl) rfl ?_
      refine sg rfl (decide_eq_false hs3_0) (o_gtr rfl rfl) rfl ?_
      refine sv (o_pickF (decide_eq_false hs3_0) rfl rfl) rfl ?_
      refine l_nil ?_
      refine e_K (hK5 _ _ _ _ ?_)
      refine c_if rfl (fun h19 => absurd h19 hs3_1) (fun h19 => ?_)
      refine c_skip ?_
      refine e_K (hK4 _ _ _ _ ?_)
      refine c_seq fun K8 hK8 => ?_
      refine c_region ?_
      refine s_bslice (cs := []) sl22 zv5 rfl rfl rfl (by decide) rfl fun g1 w2 N1 => ?_
      have Lg1_E := N1.le E
      replace E := E.then N1.mod
      have Bg1 := N1.blk
      refine sv (o_mv rfl) rfl ?_
      refine s_append sl22 rfl rfl (Own.all (c := 0) (cs := []) Bg1 rfl (by omega)) (Src.flat Tryd.underlying22 (Ra.to0 E)) (by decide) (by omega) (by omega) rfl fun mv w3 A1 => ?_
      replace E := E.trans' A1.mod (fun x hx => .inr (by simp [ob] at hx; subst hx; exact Lg1_E))
      have Lm : ∀ x ∈ ob mv, w.heap.size ≤ x := fun x hx => (A1.ob_ x hx).elim (fun h => by simp [ob] at h; subst h; exact Lg1_E) (fun h => Nat.le_trans (Nat.le_trans Lg1_E (Nat.le_of_lt Bg1.lt)) h)
      have Om := A1.own.as (m := a.length) (us := (a.map bcells).flatten) (by simp) (by simp)
      refine sv (o_as rfl) rfl ?_
      refine l_nil ?_
      refine e_K (hK8 _ _ _ _ ?_)
      refine c_seq fun K9 hK9 => ?_
      refine c_region ?_
      have hszA := E.size
      refine sc (o_call ent11 rfl) (c_new _) rfl fun v_ w4 h_ => ?_
      obtain ⟨gh, rfl, Bgh, Lgh, E_⟩ := h_
      replace E := E.then E_
      have hghN : w.heap.size ≤ gh := by omega
      have H1 := HH.new (N := w.heap.size) Bgh hghN
      have hm1 : ∀ x ∈ ob mv, x ∉ [gh] := fun x hx h => by have := Om.lt x hx; simp at h; omega
      replace Om := Om.mod0 E_
      have hszB := E.size
      refine sc (o_call ent11 rfl) (c_new _) rfl fun v_ w5 h_ => ?_
      obtain ⟨go, rfl, Bgo, Lgo, E_⟩ := h_
      replace E := E.then E_
      have hgoN : w.heap.size ≤ go := by omega
      have H2 := HH.new (N := w.heap.size) Bgo hgoN
      have hm2 : ∀ x ∈ ob mv, x ∉ [go] := fun x hx h => by have := Om.lt x hx; simp at h; omega
      have h12 : ∀ x ∈ [gh], x ∉ [go] := fun x hx h => by have := H1.lt x hx; simp at h; omega
      replace Om := Om.mod0 E_
      replace H1 := H1.mod E_ (by simp)
      refine sv (o_as rfl) rfl ?_
      refine sv (o_as rfl) rfl ?_
      refine l_nil ?_
      refine e_K (hK9 _ _ _ _ ?_)
      refine c_seq fun K10 hK10 => ?_
      refine c_region ?_
      refine sv (o_mv rfl) rfl ?_
      refine sv (o_mv rfl) rfl ?_
      refine sc (o_call ent12 rfl) (c_writeH [gh] _ w.heap.size gh [] a [gh] _ H1 hw0 E.size (hT.mod0 E) (Own.byts [gh] Om rfl hm1) (fun x hx => hx) (by simp; omega)) rfl fun v_ w6 h_ => ?_
      obtain ⟨F1, H1b, hF1, Ew⟩ := h_
      have hm1b := djn hF1 hm1 Om.lt
      have h21 := djn hF1 (djs h12) H2.lt
      replace E := E.trans' Ew (fun x hx => .inr (H1.ge x hx))
      replace Om := Om.mod Ew hm1
      replace H2 := H2.mod Ew (djs h12)
      rw [List.nil_append] at H1b
      refine l_nil ?_
      refine e_K (hK10 _ _ _ _ ?_)
      refine c_seq fun K11 hK11 => ?_
      refine c_region ?_
      refine sv (o_mv rfl) rfl ?_
      refine sv (o_mv rfl) rfl ?_
      refine sc (o_call ent12 rfl) (c_writeH [go] _ w.heap.size go [] b [go] _ H2 hw0 E.size (hT.mod0 E) ((Rb.more (A' := [go]) (fun x hx => .inr (H2.ge x hx))).to0 E) (fun x hx => hx) (by simp; omega)) rfl fun v_ w7 h_ => ?_
      obtain ⟨F2, H2b, hF2, Ew⟩ := h_
      have hm2b := djn hF2 hm2 Om.lt
      have h12b := djn hF2 (djs h21) H1b.lt
      replace E := E.trans' Ew (fun x hx => .inr (H2.ge x hx))
      replace Om := Om.mod Ew hm2
      replace H1b := H1b.mod Ew (djs h21)
      rw [List.nil_append] at H2b
      refine l_nil ?_
      refine e_K (hK11 _ _ _ _ ?_)
      refine c_seq fun K12 hK12 => ?_
      refine c_seq fun K13 hK13 => ?_
      refine c_region ?_
      refine sv (o_mv rfl) rfl ?_
      refine sv (o_b2s_own (u := a) Tryd.underlying22 Tryd.underlying5 Tryd.underlying9 rfl (Om.as rfl (flat_B8 _))) rfl ?_
      refine sv (o_mv rfl) rfl ?_
      refine sv (o_b2s_rep Tryd.underlying22 Tryd.underlying5 Tryd.underlying9 rfl (Ra.to0 E)) rfl ?_
      refine sv ((o_sne rfl rfl).to (v' := .bool false) (by simp)) rfl ?_
      refine l_nil ?_
      refine e_K (hK13 _ _ _ _ ?_)
      refine c_false rfl ?_
      refine c_skip ?_
      refine e_K (hK12 _ _ _ _ ?_)
      refine c_seq fun K14 hK14 => ?_
      refine c_seq fun K15 hK15 => ?_
      refine c_region ?_
      obtain ⟨adm, cm, rfl, hcm1, hcm2⟩ := Om.form
      refine sv (o_mv rfl) rfl ?_
      refine sv (o_len Tryd.underlying22 rfl) rfl ?_
      refine sv (o_mv rfl) rfl ?_
      refine l_nil ?_
      refine e_K (hK15 _ _ _ _ ?_)
      refine c_block ?_
      refine c_loop (σ := Nat × List UInt8) (fun ⟨k, q⟩ => [(0, .slice ada a.length ca), (1, .slice adb b.length cb), (5, .slice adm a.length cm), (6, .pointer (some ⟨gh, 0, none⟩)), (7, .pointer (some ⟨go, 0, none⟩)), (37, .int .i64 a.length), (38, .int .i64 (k : Int))]) (fun ⟨k, q⟩ w1 => k ≤ a.length ∧ q.length = a.length ∧ Own w1 5 1 (.slice adm a.length cm) a.length ((q.map bcells).flatten) ∧ HH w1 w.heap.size gh a F1 ∧ HH w1 w.heap.size go b F2 ∧ Mod [] w w1) (fun ⟨k, q⟩ => a.length - k) (⟨0, a⟩) ⟨rfl, rfl, rfl, rfl, rfl, rfl, rfl, trivial⟩ (⟨by omega, rfl, Om, H1b, H2b, E⟩) ?_
      rintro ⟨k, q⟩ w8 ⟨hk, hq, Om, H1b, H2b, E⟩
      refine c_seq fun K16 hK16 => ?_
      refine c_region ?_
      refine sv (o_lss rfl rfl) rfl ?_
      refine l_nil ?_
      refine e_K (hK16 _ _ _ _ ?_)
      refine c_seq fun K17 hK17 => ?_
      refine c_if rfl (fun h39 => ?_) (fun h39 => ?_)
      · skip
        have hlt : k < a.length := by omega
        obtain ⟨x, hx⟩ : ∃ x, q[k]? = some x := ⟨_, List.getElem?_eq_getElem (by omega)⟩
        obtain ⟨adm, rfl⟩ : ∃ y, adm = some y := by
          cases adm with
          | some y => exact ⟨y, rfl⟩
          | none => rcases Om.2 with ⟨h0, h1⟩ | ⟨_, _, _, _, h0, _⟩; omega; cases h0
        refine c_skip ?_
        refine e_K (hK17 _ _ _ _ ?_)
        refine c_seq fun K18 hK18 => ?_
        refine c_block ?_
        refine c_seq fun K19 hK19 => ?_
        refine c_region ?_
        refine sv (o_mv rfl) rfl ?_
        refine sv (o_as rfl) rfl ?_
        refine l_nil ?_
        refine e_K (hK19 _ _ _ _ ?_)
        refine c_region ?_
        refine sv (o_mv rfl) rfl ?_
        refine sv (o_mv rfl) rfl ?_
        refine sv (o_ix sl22 rfl rfl (by omega)) rfl ?_
        refine sv (o_ld sc5 rfl (by have := Om.cs k (B8 x) (by rw [flat_B8, List.getElem?_map, hx]; rfl); rwa [Nat.mul_one])) rfl ?_
        refine sv ((o_add rfl rfl).to (v' := B8 (x + 1)) (b8_succ x)) rfl ?_
        refine sv (o_ix sl22 rfl rfl (by omega)) rfl ?_
        refine s_stown1 (i := k) sc5 Om rfl rfl rfl (by omega) fun wS Om2 ES hzS => ?_
        replace E := E.own ES (Lm _ (by simp [ob]))
        rw [bset] at Om2
        replace H1b := H1b.mod ES (fun x hx h => hm1b adm.block (by simp [ob]) (by simpa using (List.mem_singleton.1 h) ▸ hx))
        replace H2b := H2b.mod ES (fun x hx h => hm2b adm.block (by simp [ob]) (by simpa using (List.mem_singleton.1 h) ▸ hx))
        refine l_nil ?_
        refine e_in (by simp) ?_
        refine e_K (hK18 _ _ _ _ ?_)
        refine c_region ?_
        refine sv (o_addN rfl rfl (by omega)) rfl ?_
        refine sv (o_mv rfl) rfl ?_
        refine l_nil ?_
        exact e_round (σ := Nat × List UInt8) (s := ⟨k, q⟩) (⟨k + 1, q.set k (x + 1)⟩) ⟨rfl, rfl, rfl, rfl, rfl, rfl, rfl, trivial⟩ ⟨by omega, by simp [hq], Om2, H1b, H2b, E⟩ (by dsimp only; omega)
      · skip
        refine c_exit ?_
        refine e_then (by simp) ?_
        refine e_then (by simp) ?_
        refine e_hit ?_
        refine e_K (hK14 _ _ _ _ ?_)
        refine c_seq fun K20 hK20 => ?_
        refine c_region ?_
        refine sv (o_mv rfl) rfl ?_
        refine sv (o_mv rfl) rfl ?_
        refine sc (o_call ent12 rfl) (c_writeH F1 _ w.heap.size gh a b F1 _ H1b hw0 E.size (hT.mod0 E) ((Rb.more (A' := F1) (fun x hx => .inr (H1b.ge x hx))).to0 E) (fun x hx => hx) (by omega)) rfl fun v_ w9 h_ => ?_
        obtain ⟨F3, H3, hF3, Ew⟩ := h_
        replace E := E.trans' Ew (fun x hx => .inr (H1b.ge x hx))
        replace H2b := H2b.mod Ew (djs h12b)
        refine l_nil ?_
        refine e_K (hK20 _ _ _ _ ?_)
        refine c_seq fun K21 hK21 => ?_
        refine c_region ?_
        refine sv (o_as rfl) rfl ?_
        refine l_nil ?_
        refine e_K (hK21 _ _ _ _ ?_)
        refine c_seq fun K22 hK22 => ?_
        refine c_region ?_
        refine sv (o_mv rfl) rfl ?_
        refine sv (o_mv rfl) rfl ?_
        refine sc (o_call ent12 rfl) (Calls.imp (ψ := fun _ w' => True ∧ Mod [] _ w') (c_writenil _ _) (fun _ _ h => ⟨trivial, h⟩)) rfl fun v_ w10 h_ => ?_
        obtain ⟨_, E_⟩ := h_
        replace E := E.then E_
        replace H3 := H3.mod E_ (by simp)
        replace H2b := H2b.mod E_ (by simp)
        refine l_nil ?_
        refine e_K (hK22 _ _ _ _ ?_)
        refine c_seq fun K23 hK23 => ?_
        refine c_region ?_
        refine sv (o_mv rfl) rfl ?_
        refine sc (o_call ent13 rfl) (c_sumH _ w.heap.size gh (a ++ b) F3 H3 (hT.mod0 E) (Nat.lt_of_lt_of_le hw0 E.size) (by simp; omega)) rfl fun v_ w11 h_ => ?_
        obtain ⟨rfl, E_⟩ := h_
        replace E := E.then E_
        replace H2b := H2b.mod E_ (by simp)
        have H2lt := H2b.lt
        refine s_bslice (cs := []) sl22 zv5 rfl rfl rfl (by decide) rfl fun g2 w12 N2 => ?_
        have Lg2_E := N2.le E
        replace E := E.then N2.mod
        have Bg2 := N2.blk
        replace H2b := H2b.mod N2.mod (by simp)
        have hg2l := N2.at_
        refine sv (o_mv rfl) rfl ?_
        refine s_append sl22 rfl rfl (Own.all (c := 0) (cs := []) Bg2 rfl (by omega)) (Src.flat Tryd.underlying22 (Ra.to0 E)) (by decide) (by omega) (by omega) rfl fun nv w13 A2 => ?_
        have hg2F : ∀ x ∈ F2, x ∉ ob (.slice (some ⟨g2, 0, none⟩) 0 0) := fun x hx h => by simp [ob] at h; have := H2lt x hx; omega
        replace H2b := H2b.mod A2.mod hg2F
        replace E := E.trans' A2.mod (fun x hx => .inr (by simp [ob] at hx; subst hx; exact Lg2_E))
        have Ln : ∀ x ∈ ob nv, w.heap.size ≤ x ∧ x ∉ F2 := fun x hx => (A2.ob_ x hx).elim (fun h => by simp [ob] at h; subst h; exact ⟨Lg2_E, fun hf => by have := H2lt x hf; omega⟩) (fun h => ⟨Nat.le_trans (Nat.le_trans Lg2_E (Nat.le_of_lt Bg2.lt)) h, fun hf => by have := H2lt x hf; have := Bg2.lt; omega⟩)
        have On := A2.own.as (m := a.length) (us := (a.map bcells).flatten) (by simp) (by simp)
        refine sv (o_mv rfl) rfl ?_
        refine s_append sl22 rfl rfl On (Src.flat Tryd.underlying22 (Rb.to0 E)) (by decide) (by omega) (by omega) rfl fun nv2 w14 A3 => ?_
        replace H2b := H2b.mod A3.mod (fun x hx h => (Ln x h).2 hx)
        replace E := E.trans' A3.mod (fun x hx => .inr (Ln x hx).1)
        have O3 := A3.own.as (m := (a ++ b).length) (us := ((a ++ b).map bcells).flatten) (by simp) (by simp)
        have RB := Own.byts [] O3 rfl (by simp)
        refine sc (o_call ent9 rfl) (c_of [] _ (a ++ b) _ RB (hT.mod0 E) (Nat.lt_of_lt_of_le hw0 E.size) (by simp; omega)) rfl fun v_ w15 h_ => ?_
        obtain ⟨rfl, E_⟩ := h_
        replace E := E.then E_
        replace H2b := H2b.mod E_ (by simp)
        refine sv ((o_areq ar24 Tryd.underlying5 rfl (by kernel_rfl) rfl rfl (outB_len _ _) (outB_len _ _)).to (v' := .bool true) (by simp)) rfl ?_
        refine sv (o_mv rfl) rfl ?_
        refine sg rfl (rfl) (o_mv rfl) rfl ?_
        refine sgc rfl (rfl) (o_call ent13 rfl) (c_sumH _ w.heap.size go b F2 H2b (hT.mod0 E) (Nat.lt_of_lt_of_le hw0 E.size) (by omega)) rfl fun v_ w16 h_ => ?_
        obtain ⟨rfl, E_⟩ := h_
        replace E := E.then E_
        refine sg rfl (rfl) (o_mv rfl) rfl ?_
        refine sgc rfl (rfl) (o_call ent9 rfl) (c_of [] _ b _ (Rb.to0 E) (hT.mod0 E) (Nat.lt_of_lt_of_le hw0 E.size) (by omega)) rfl fun v_ w17 h_ => ?_
        obtain ⟨rfl, E_⟩ := h_
        replace E := E.then E_
        refine sg rfl (rfl) ((o_areq ar24 Tryd.underlying5 rfl (by kernel_rfl) rfl rfl (outB_len _ _) (outB_len _ _)).to (v' := .bool true) (by simp)) rfl ?_
        refine sv (o_pickT (rfl) rfl rfl) rfl ?_
        refine sv (o_mv rfl) rfl ?_
        refine sg rfl (rfl) (o_mv rfl) rfl ?_
        refine sgc rfl (rfl) (o_call ent13 rfl) (c_sumnil _) rfl fun v_ w18 h_ => ?_
        obtain ⟨rfl, E_⟩ := h_
        replace E := E.then E_
        refine sg rfl (rfl) (o_builda (cs := List.replicate 32 (.int .u8 0)) ar24 zv24 rfl rfl) rfl ?_
        refine sg rfl (rfl) ((o_areq (xs := List.replicate 32 0) (ys := List.replicate 32 0) ar24 Tryd.underlying5 rfl (by kernel_rfl) rfl rfl rfl rfl).to (v' := .bool true) (by simp)) rfl ?_
        refine sv (o_pickT (rfl) rfl rfl) rfl ?_
        refine sv (o_as rfl) rfl ?_
        refine l_nil ?_
        refine e_K (hK23 _ _ _ _ ?_)
        refine c_ret ?_
        exact ret1 rfl rfl ⟨rfl, E⟩

end Go.Proofs.YtccjjkdogljmpaaDoor.V
