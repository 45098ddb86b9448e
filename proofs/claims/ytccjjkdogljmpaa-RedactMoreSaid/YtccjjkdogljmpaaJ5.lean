/-
  A part of the proof: walks of functions, and the plain laws of what they compute. No condition of its own.
-/
import Derived.Test.YtccjjkdogljmpaaJ4
import Derived.Test.YtccjjkdogljmpaaU5
set_option linter.unusedVariables false
set_option linter.unusedSimpArgs false
set_option maxRecDepth 10000
namespace Go.Proofs.Ytccjjkdogljmpaa.V
open Go Go.Proofs
theorem ovl56 : Ovl Try.prog 56 36 4 := fun args w => run_callFunc_extern Try.func56 (by kernel_rfl) (by kernel_rfl) (by kernel_rfl) (by kernel_rfl) args w
theorem c_cloneM (A : List Nat) (w0 w : World) (m : List (Str × JV)) (v : Value) (R : Rep A w0 (.sl 7 (m.map JV.Dp)) v) (E0 : Mod [] w0 w) (hn : m.length ≤ 1353245080310) : Calls Try.prog 46 [v].toArray w (Ret fun u w' => ∃ vs, Own w' 49 7 u m.length vs ∧ Reps A w0 (m.map JV.Dp).flatten vs ∧ (∀ x ∈ ob u, w.heap.size ≤ x) ∧ Mod [] w w') := by
  refine enter Try.func46 rfl rfl rfl (l := [(0, _)]) ⟨rfl, trivial⟩ ?_
  have E := Mod.refl [] w
  obtain ⟨ad, c, rfl, hc1, hc2⟩ : ∃ ad c, v = .slice ad m.length c ∧ m.length ≤ c ∧ c ≤ 9223372036854775807 := by
    obtain ⟨ad, c, h1, h2, h3⟩ := R.sl_
    rw [List.length_map] at h1 h2
    exact ⟨ad, c, h1, h2, h3⟩
  obtain ⟨vs, hvs, hvl, hsrc⟩ := Src.rep0 (P := Try.prog) Try.underlying36 R
  rw [List.length_map] at hvl hsrc
  refine c_seq fun K1 hK1 => ?_
  refine c_region ?_
  refine sv (o_as rfl) rfl ?_
  refine l_nil ?_
  refine e_K (hK1 _ _ _ _ ?_)
  refine c_seq fun K2 hK2 => ?_
  refine c_seq fun K3 hK3 => ?_
  refine c_region ?_
  refine sv (o_mv rfl) rfl ?_
  refine sv (o_neqs Try.underlying36 rfl rfl) rfl ?_
  refine l_nil ?_
  refine e_K (hK3 _ _ _ _ ?_)
  refine c_cond rfl (fun h4 => ?_) (fun h4 => ?_)
  · skip
    have hx0 : m = [] := by
      cases ad with
      | none => exact JV.none_m R
      | some a => simp at h4
    subst hx0
    refine c_seq fun K4 hK4 => ?_
    refine c_region ?_
    refine sv (o_as rfl) rfl ?_
    refine l_nil ?_
    refine e_K (hK4 _ _ _ _ ?_)
    refine c_ret ?_
    refine e_then (by simp) ?_
    exact ret1 rfl rfl ⟨[], by simpa using Own.nil _ 49 7, Reps.nil_, by simp [ob], E⟩
  · skip
    refine c_skip ?_
    refine e_K (hK2 _ _ _ _ ?_)
    refine c_seq fun K5 hK5 => ?_
    refine c_region ?_
    refine s_bslice (cs := []) sl36 zv49 rfl rfl rfl (by decide) rfl fun g1 w1 N1 => ?_
    have Lg1_E := N1.le E
    replace E := E.then N1.mod
    have Bg1 := N1.blk
    refine sv (o_mv rfl) rfl ?_
    refine s_append sl36 rfl rfl (Own.all (c := 0) (cs := []) Bg1 rfl (by omega)) (hsrc _ (E0.then E)) (by decide) (by omega) (by omega) rfl fun v1 w2 A1 => ?_
    replace E := E.trans' A1.mod (fun x hx => .inr (by simp [ob] at hx; subst hx; exact Lg1_E))
    have L1 : ∀ x ∈ ob v1, w.heap.size ≤ x := fun x hx => (A1.ob_ x hx).elim (fun h => by simp [ob] at h; subst h; exact Lg1_E) (fun h => Nat.le_trans (Nat.le_trans Lg1_E (Nat.le_of_lt Bg1.lt)) h)
    refine sv (o_as rfl) rfl ?_
    refine l_nil ?_
    refine e_K (hK5 _ _ _ _ ?_)
    refine c_ret ?_
    exact ret1 rfl rfl ⟨vs, A1.own.same (by simp) (by simp), hvs, L1, E⟩

theorem c_insM (w : World) (n : Nat) (vs sc : List Value) (i : Nat) (v u : Value) (O : Own w 49 7 v n vs) (O2 : Own w 49 7 u 1 sc) (hone : ∀ x ∈ vs, x.oneCell' = true) (hs1 : ∀ x ∈ sc, x.oneCell' = true) (hne : ∀ x ∈ ob v, ∀ y ∈ ob u, x ≠ y) (hi : i ≤ n) (hn : n ≤ 1353245080310) : Calls Try.prog 48 [v, .int .i64 (i : Int), u].toArray w (Ret fun r w' => Own w' 49 7 r (n + 1) (vs.take (i * 7) ++ sc ++ vs.drop (i * 7)) ∧ (∀ x ∈ ob r, x ∈ ob v ∨ w.heap.size ≤ x) ∧ Mod (ob v) w w') := by
  refine enter Try.func48 rfl rfl rfl (l := [(0, _), (1, _), (2, _)]) ⟨rfl, rfl, rfl, trivial⟩ ?_
  have E := Mod.refl [] w
  obtain ⟨ad, c, rfl, hc1, hc2⟩ := O.form
  rcases O2.2 with ⟨_, h0⟩ | ⟨g2, o2, c2, cs2, rfl, B2, _⟩
  · omega
  have hvl := O.1
  have hsl : sc.length = 7 := by simpa using O2.1
  refine c_seq fun K1 hK1 => ?_
  refine c_region ?_
  refine sv (o_as rfl) rfl ?_
  refine l_nil ?_
  refine e_K (hK1 _ _ _ _ ?_)
  refine c_seq fun K2 hK2 => ?_
  refine c_region ?_
  refine sv (o_mv rfl) rfl ?_
  refine sv (o_mv rfl) rfl ?_
  refine sv (o_slfrom sl36 rfl rfl (by omega) (by omega)) rfl ?_
  refine l_nil ?_
  refine e_K (hK2 _ _ _ _ ?_)
  refine c_seq fun K3 hK3 => ?_
  refine c_region ?_
  refine sv (o_mv rfl) rfl ?_
  refine sv (o_len Try.underlying36 rfl) rfl ?_
  refine sv (o_as rfl) rfl ?_
  refine l_nil ?_
  refine e_K (hK3 _ _ _ _ ?_)
  refine c_seq fun K4 hK4 => ?_
  refine c_seq fun K5 hK5 => ?_
  refine c_region ?_
  refine sv (o_mv rfl) rfl ?_
  refine sv (o_eql rfl rfl) rfl ?_
  refine l_nil ?_
  refine e_K (hK5 _ _ _ _ ?_)
  refine c_false rfl ?_
  refine c_skip ?_
  refine e_K (hK4 _ _ _ _ ?_)
  refine c_seq fun K6 hK6 => ?_
  refine c_region ?_
  refine sv (o_mv rfl) rfl ?_
  refine sv (o_len Try.underlying36 rfl) rfl ?_
  refine sv (o_as rfl) rfl ?_
  refine l_nil ?_
  refine e_K (hK6 _ _ _ _ ?_)
  refine c_seq fun K7 hK7 => ?_
  refine c_seq fun K8 hK8 => ?_
  refine c_region ?_
  refine sv (o_mv rfl) rfl ?_
  refine sv (o_mv rfl) rfl ?_
  refine sv (o_eql rfl rfl) rfl ?_
  refine l_nil ?_
  refine e_K (hK8 _ _ _ _ ?_)
  refine c_if rfl (fun h22 => ?_) (fun h22 => ?_)
  · skip
    have hi2 : i = n := by omega
    refine c_seq fun K9 hK9 => ?_
    refine c_region ?_
    refine sv (o_mv rfl) rfl ?_
    refine sv (o_mv rfl) rfl ?_
    refine s_append sl36 rfl rfl O (Src.own Try.underlying36 O2 hs1) (by decide) (by omega) (by omega) rfl fun v1 w1 A1 => ?_
    refine sv (o_as rfl) rfl ?_
    refine l_nil ?_
    refine e_K (hK9 _ _ _ _ ?_)
    refine c_ret ?_
    refine e_then (by simp) ?_
    exact ret1 rfl rfl ⟨A1.own.same rfl (by subst hi2; simp [List.take_of_length_le, List.drop_eq_nil_of_le, hvl]), A1.ob_, A1.mod⟩
  · skip
    refine c_skip ?_
    refine e_K (hK7 _ _ _ _ ?_)
    refine c_seq fun K10 hK10 => ?_
    refine c_seq fun K11 hK11 => ?_
    refine c_region ?_
    refine sv (o_mv rfl) rfl ?_
    refine sv (o_mv rfl) rfl ?_
    refine sv (o_addN rfl rfl (by omega)) rfl ?_
    refine sv (o_mv rfl) rfl ?_
    refine sv (o_cap Try.underlying36 rfl) rfl ?_
    refine sv (o_gtr rfl rfl) rfl ?_
    refine l_nil ?_
    refine e_K (hK11 _ _ _ _ ?_)
    refine c_if rfl (fun h31 => ?_) (fun h31 => ?_)
    · skip
      refine c_seq fun K12 hK12 => ?_
      refine c_region ?_
      refine sv (o_mv rfl) rfl ?_
      refine sv (o_mv rfl) rfl ?_
      refine sv (o_slto sl36 rfl rfl (by omega) (by omega)) rfl ?_
      refine sv (o_mv rfl) rfl ?_
      refine sv (o_mv rfl) rfl ?_
      refine sv (o_addN rfl rfl (by omega)) rfl ?_
      refine sv (o_mv rfl) rfl ?_
      refine sv (o_subE (r := ((n + 1 - i : Nat) : Int)) rfl rfl (by rw [wrap64_in _ (by omega)]; omega)) rfl ?_
      refine s_appendz sl36 zv49 rfl Try.underlying3 rfl rfl (O.take (by omega)) (by decide) (by simp [Value.oneCell']) (by omega) (by omega) rfl fun v1 w1 news A1 hnl h1n hgr => ?_
      obtain ⟨Lv1, E1⟩ := hgr (fun ad' cc e => by injection e with _ _ e3; subst e3; omega)
      replace E := E1
      have hO1 := A1.own
      rcases hO1.2 with ⟨_, h0⟩ | ⟨g3, o3, c3, cs3, hv1, B3, hc31, _⟩
      · omega
      subst hv1
      have hN : i + (n + 1 - i) = n + 1 := by omega
      rw [hN] at hO1 hc31 ⊢
      have hn3 : w.heap.size ≤ g3 := Lv1 g3 (by simp [ob])
      have hvO : ∀ x ∈ ob (.slice ad n c), x < w.heap.size := O.lt
      have hg2 : g2 < w.heap.size := B2.lt
      have hm3 : (9223372036854775807 : Nat) ≥ c3 := by obtain ⟨_, _, hq, hq1, hq2⟩ := hO1.form; injection hq with _ _ hq; subst hq; exact hq2
      refine sv (o_as rfl) rfl ?_
      refine l_nil ?_
      refine e_K (hK12 _ _ _ _ ?_)
      refine c_seq fun K13 hK13 => ?_
      refine c_region ?_
      refine sv (o_mv rfl) rfl ?_
      refine sv (o_mv rfl) rfl ?_
      refine sv (o_slfrom (c := n + 1) sl36 rfl rfl (by omega) (by omega)) rfl ?_
      refine sv (o_mv rfl) rfl ?_
      have hS2 : Src Try.prog 7 36 (.slice (some ⟨g2, o2, none⟩) 1 c2) 1 sc w1 := Src.own Try.underlying36 (O2.mod0 E) hs1
      refine s_copyat sl36 hO1 rfl rfl (hS2.len _) (k := 1) (Nat.min_eq_left (by omega)) hS2.cells hsl hs1 (by omega) rfl fun w2 hO2 E2 hz2 => ?_
      replace E := E.own E2 hn3
      refine l_nil ?_
      refine e_K (hK13 _ _ _ _ ?_)
      refine c_seq fun K14 hK14 => ?_
      refine c_drawp [] [0, 1, 2, 3, 4, 5, 6, 7] 8 [] wide (by kernel_rfl) (fun _ _ _ h => h.2) ?_
      refine pw_nil ?_
      refine tv (fun w_ E_ => (o_mv rfl)) rfl rfl ?_
      refine tv (fun w_ E_ => (o_mv rfl)) rfl rfl ?_
      refine tv (fun w_ E_ => (o_mv rfl)) rfl rfl ?_
      refine tv (fun w_ E_ => (o_addE (r := ((i + 1 : Nat) : Int)) rfl rfl (by rw [wrap64_in _ (by omega)]; omega))) rfl rfl ?_
      refine tv (fun w_ E_ => (o_slfrom (c := n + 1) sl36 rfl rfl (by omega) (by omega))) rfl rfl ?_
      refine tv (fun w_ E_ => (o_mv rfl)) rfl rfl ?_
      refine tv (fun w_ E_ => (o_mv rfl)) rfl rfl ?_
      refine tv (fun w_ E_ => (o_slfrom sl36 rfl rfl (by omega) (by omega))) rfl rfl ?_
      refine tw_tail rfl fun w1 E_ => ?_
      replace E := E.then E_
      have hS3 := Src.own (P := Try.prog) Try.underlying36 ((O.mod0 E).cut (lo := i) (hi := n) (by omega) (by omega)) (fun u hu => hone u (List.mem_of_mem_drop (List.mem_of_mem_take hu)))
      replace hO2 := hO2.mod0 E_
      refine s_copyat (lo := i + 1) sl36 hO2 rfl rfl (hS3.len _) (k := n - i) (Nat.min_eq_left (by omega)) hS3.cells hS3.newsLen hS3.one (by omega) rfl fun w3 hO3 E3 hz3 => ?_
      replace E := E.own E3 hn3
      refine l_nil ?_
      refine e_K (hK14 _ _ _ _ ?_)
      refine c_seq fun K15 hK15 => ?_
      refine c_region ?_
      refine sv (o_mv rfl) rfl ?_
      refine sv (o_as rfl) rfl ?_
      refine l_nil ?_
      refine e_K (hK15 _ _ _ _ ?_)
      refine c_ret ?_
      refine e_then (by simp) ?_
      exact ret1 rfl rfl ⟨hO3.same rfl (ins_grow7 hvl hnl hsl hi), fun x hx => .inr (Lv1 x (by simpa [ob] using hx)), E.mono (by simp)⟩
    · skip
      have hroom : n + 1 ≤ c := by omega
      rcases O.2 with ⟨h0, _⟩ | ⟨go, oo, co, cso, hvo, BO, hco1, hco2, hco3, hco4⟩
      · injection h0 with _ _ h0; omega
      injection hvo with e1 e2 e3
      subst e1; subst e3
      have hgne : g2 ≠ go := fun e => hne go (by simp [ob]) g2 (by simp [ob]) e.symm
      have hcne : cso ≠ [] := by rintro rfl; simp at hco3; omega
      obtain ⟨oA, hoA⟩ := adS_some go oo c (i + 1) 7
      have hob2 : ∀ x ∈ ob (.slice (some ⟨g2, o2, none⟩) 1 c2), x ∉ ob (.slice (some ⟨go, oo, none⟩) n c) := fun x hx => by simp [ob] at hx ⊢; subst hx; exact hgne
      obtain ⟨vs', O3, h3t⟩ := O.extend (m := n + 1) (by omega) hroom
      replace E := Mod.refl (ob (.slice (some ⟨go, oo, none⟩) n c)) w
      refine c_skip ?_
      refine e_K (hK10 _ _ _ _ ?_)
      refine c_seq fun K16 hK16 => ?_
      refine c_region ?_
      refine sv (o_mv rfl) rfl ?_
      refine sv (o_mv rfl) rfl ?_
      refine sv (o_mv rfl) rfl ?_
      refine sv (o_addE (r := ((n + 1 : Nat) : Int)) rfl rfl (by rw [wrap64_in _ (by omega)]; omega)) rfl ?_
      refine sv (o_slto sl36 rfl rfl (by omega) (by omega)) rfl ?_
      refine sv (o_as rfl) rfl ?_
      refine l_nil ?_
      refine e_K (hK16 _ _ _ _ ?_)
      refine c_seq fun K17 hK17 => ?_
      refine c_seq fun K18 hK18 => ?_
      refine c_region ?_
      refine sv (o_mv rfl) rfl ?_
      refine sv (o_mv rfl) rfl ?_
      refine sv (o_mv rfl) rfl ?_
      refine sv (o_mv rfl) rfl ?_
      refine sv (o_addE (r := ((i + 1 : Nat) : Int)) rfl rfl (by rw [wrap64_in _ (by omega)]; omega)) rfl ?_
      refine sv ((o_slfrom sl36 rfl rfl (by omega) (by omega)).to (by rw [hoA])) rfl ?_
      refine sv (o_overlaps ovl56 sl36 rfl rfl rfl rfl B2 BO hgne hcne) rfl ?_
      refine sv (o_not rfl) rfl ?_
      refine l_nil ?_
      refine e_K (hK18 _ _ _ _ ?_)
      refine c_true rfl ?_
      refine c_seq fun K19 hK19 => ?_
      refine c_drawp [] [0, 1, 2, 3, 4, 5, 6, 7] 8 [] wide (by kernel_rfl) (fun _ _ _ h => h.2) ?_
      refine pw_nil ?_
      refine tv (fun w_ E_ => (o_mv rfl)) rfl rfl ?_
      refine tv (fun w_ E_ => (o_mv rfl)) rfl rfl ?_
      refine tv (fun w_ E_ => (o_mv rfl)) rfl rfl ?_
      refine tv (fun w_ E_ => (o_addE (r := ((i + 1 : Nat) : Int)) rfl rfl (by rw [wrap64_in _ (by omega)]; omega))) rfl rfl ?_
      refine tv (fun w_ E_ => (o_slfrom sl36 rfl rfl (by omega) (by omega))) rfl rfl ?_
      refine tv (fun w_ E_ => (o_mv rfl)) rfl rfl ?_
      refine tv (fun w_ E_ => (o_mv rfl)) rfl rfl ?_
      refine tv (fun w_ E_ => (o_slfrom sl36 rfl rfl (by omega) (by omega))) rfl rfl ?_
      refine tw_tail rfl fun w2 E_ => ?_
      replace E := E.then E_
      replace O3 := O3.mod0 E_
      have hS3 := Src.own (P := Try.prog) Try.underlying36 (O3.cut (lo := i) (hi := n) (by omega) (by omega)) (fun u hu => hone u (by
        rw [Nat.sub_mul, ← List.drop_take, h3t] at hu
        exact List.mem_of_mem_drop hu))
      refine s_copyat (lo := i + 1) sl36 O3 rfl rfl rfl (k := n - i) (c' := n + 1 - i) ((Nat.min_eq_right (by omega)).trans (by omega)) (by rw [firstCells_any _ _ _ _ _ (n - i) (c - i)]; exact hS3.cells) hS3.newsLen hS3.one (by omega) rfl fun w2 hO4 E4 hz4 => ?_
      replace E := (E.trans' E4 (fun x hx => .inl (by simpa [ob] using hx)))
      refine l_nil ?_
      refine e_K (hK19 _ _ _ _ ?_)
      refine c_seq fun K20 hK20 => ?_
      refine c_region ?_
      refine sv (o_mv rfl) rfl ?_
      refine sv (o_mv rfl) rfl ?_
      refine sv (o_slfrom sl36 rfl rfl (by omega) (by omega)) rfl ?_
      refine sv (o_mv rfl) rfl ?_
      have hS2 : Src Try.prog 7 36 (.slice (some ⟨g2, o2, none⟩) 1 c2) 1 sc w2 := Src.own Try.underlying36 (O2.mod E hob2) hs1
      refine s_copyat sl36 hO4 rfl rfl (hS2.len _) (k := 1) (Nat.min_eq_left (by omega)) hS2.cells hsl hs1 (by omega) rfl fun w3 hO5 E5 hz5 => ?_
      replace E := (E.trans' E5 (fun x hx => .inl (by simpa [ob] using hx)))
      refine l_nil ?_
      refine e_K (hK20 _ _ _ _ ?_)
      refine c_seq fun K21 hK21 => ?_
      refine c_region ?_
      refine sv (o_mv rfl) rfl ?_
      refine sv (o_as rfl) rfl ?_
      refine l_nil ?_
      refine e_K (hK21 _ _ _ _ ?_)
      refine c_ret ?_
      refine e_then (by simp) ?_
      exact ret1 rfl rfl ⟨hO5.same rfl (ins_room7 hvl O3.1 h3t hsl hi), fun x hx => .inl (by simpa [ob] using hx), E⟩
end Go.Proofs.Ytccjjkdogljmpaa.V
