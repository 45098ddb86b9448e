/-
  A part of the proof: walks of functions. No condition of its own.
-/
import Derived.Test.YtkhbnhdlelmbnaaDoorM19
import Derived.Test.YtkhbnhdlelmbnaaDoorM12
import Derived.Test.YtkhbnhdlelmbnaaDoorM20
set_option linter.unusedVariables false
set_option linter.unusedSimpArgs false
set_option maxRecDepth 10000
namespace Go.Proofs.YtkhbnhdlelmbnaaDoor.V
open Go Go.Proofs
theorem ent29 : Ent Tryd.prog 29 := Ent.of Tryd.func29 (by kernel_rfl) (by kernel_rfl)
theorem ent30 : Ent Tryd.prog 30 := Ent.of Tryd.func30 (by kernel_rfl) (by kernel_rfl)
theorem fd33_8 : fdB Tryd.prog 33 8 13 1 = true := by kernel_rfl
theorem ent26 : Ent Tryd.prog 26 := Ent.of Tryd.func26 (by kernel_rfl) (by kernel_rfl)
theorem fd33_9 : fdB Tryd.prog 33 9 14 1 = true := by kernel_rfl
theorem ent28 : Ent Tryd.prog 28 := Ent.of Tryd.func28 (by kernel_rfl) (by kernel_rfl)
theorem ent23 : Ent Tryd.prog 23 := Ent.of Tryd.func23 (by kernel_rfl) (by kernel_rfl)
theorem ent24 : Ent Tryd.prog 24 := Ent.of Tryd.func24 (by kernel_rfl) (by kernel_rfl)
theorem ent25 : Ent Tryd.prog 25 := Ent.of Tryd.func25 (by kernel_rfl) (by kernel_rfl)
theorem fd33_3 : fdB Tryd.prog 33 3 3 1 = true := by kernel_rfl
theorem ent31 : Ent Tryd.prog 31 := Ent.of Tryd.func31 (by kernel_rfl) (by kernel_rfl)
theorem ent33 : Ent Tryd.prog 33 := Ent.of Tryd.func33 (by kernel_rfl) (by kernel_rfl)
theorem ent34 : Ent Tryd.prog 34 := Ent.of Tryd.func34 (by kernel_rfl) (by kernel_rfl)
theorem ent35 : Ent Tryd.prog 35 := Ent.of Tryd.func35 (by kernel_rfl) (by kernel_rfl)
theorem ent36 : Ent Tryd.prog 36 := Ent.of Tryd.func36 (by kernel_rfl) (by kernel_rfl)
theorem ent37 : Ent Tryd.prog 37 := Ent.of Tryd.func37 (by kernel_rfl) (by kernel_rfl)
theorem c_cloneS (w : World) (xs : List Str) (ad : Option Addr) (c : Nat) (R : Rep [] w (strD xs) (.slice ad xs.length c)) (hn : xs.length ≤ 1000000) : Calls Tryd.prog 29 [.slice ad xs.length c].toArray w (Ret fun u w' => Own w' 9 1 u xs.length ((xs.map fun s => [S s]).flatten) ∧ (∀ x ∈ ob u, w.heap.size ≤ x) ∧ Mod [] w w') := by
  refine enter Tryd.func29 rfl rfl rfl (l := [(0, _)]) ⟨rfl, trivial⟩ ?_
  have E := Mod.refl [] w
  have hne : ad = none → xs = [] := fun h => by subst h; exact flat_none R
  refine c_seq fun K1 hK1 => ?_
  refine c_region ?_
  refine sv (o_as rfl) rfl ?_
  refine l_nil ?_
  refine e_K (hK1 _ _ _ _ ?_)
  refine c_seq fun K2 hK2 => ?_
  refine c_seq fun K3 hK3 => ?_
  refine c_region ?_
  refine sv (o_mv rfl) rfl ?_
  refine sv (o_neqs Tryd.underlying30 rfl rfl) rfl ?_
  refine l_nil ?_
  refine e_K (hK3 _ _ _ _ ?_)
  refine c_cond rfl (fun h4 => ?_) (fun h4 => ?_)
  · skip
    have hx0 : xs = [] := hne (by cases ad with | none => rfl | some a => simp at h4)
    subst hx0
    refine c_seq fun K4 hK4 => ?_
    refine c_region ?_
    refine sv (o_as rfl) rfl ?_
    refine l_nil ?_
    refine e_K (hK4 _ _ _ _ ?_)
    refine c_ret ?_
    refine e_then (by simp) ?_
    exact ret1 rfl rfl ⟨by simpa using Own.nil _ 9 1, by simp [ob], E⟩
  · skip
    refine c_skip ?_
    refine e_K (hK2 _ _ _ _ ?_)
    refine c_seq fun K5 hK5 => ?_
    refine c_region ?_
    refine s_bslice (cs := []) sl30 zv9 rfl rfl rfl (by decide) rfl fun g1 w1 N1 => ?_
    have Lg1_E := N1.le E
    replace E := E.then N1.mod
    have Bg1 := N1.blk
    refine sv (o_mv rfl) rfl ?_
    refine s_append sl30 rfl rfl (Own.all (c := 0) (cs := []) Bg1 rfl (by omega)) (Src.flat Tryd.underlying30 (R.to0 E)) (by decide) (by omega) (by omega) rfl fun v1 w2 A1 => ?_
    replace E := E.trans' A1.mod (fun x hx => .inr (by simp [ob] at hx; subst hx; exact Lg1_E))
    have L1 : ∀ x ∈ ob v1, w.heap.size ≤ x := fun x hx => (A1.ob_ x hx).elim (fun h => by simp [ob] at h; subst h; exact Lg1_E) (fun h => Nat.le_trans (Nat.le_trans Lg1_E (Nat.le_of_lt Bg1.lt)) h)
    refine sv (o_as rfl) rfl ?_
    refine l_nil ?_
    refine e_K (hK5 _ _ _ _ ?_)
    refine c_ret ?_
    exact ret1 rfl rfl ⟨A1.own.same (by simp) (by simp), L1, E⟩

theorem c_check (w : World) (e : EV) (us : List Value) (R : Reps [] w e.D us) (ho : e.ok) (hsm : e.lens) (hT : Tab w) (hM : MaxL w) : Calls Tryd.prog 9 [.agg us.toArray].toArray w (Ret fun u w' => u = .int .i64 e.chk ∧ Mod [] w w') := by
  refine enter Tryd.func9 rfl rfl rfl (l := [(0, _)]) ⟨rfl, trivial⟩ ?_
  have E := Mod.refl [] w
  obtain ⟨al, cl, am, cm, ap, cp, aa, ca, aS, cS, rfl, Rc, Rp, Ra, Rs⟩ := EV.cells17 R
  obtain ⟨ho1, ho2, ho3, ho4, ho5, ho6, ho7, ho8, ho9, ho10, ho11, ho12⟩ := ho
  have hslen : ∀ s ∈ e.sigs, s.srv.length < 4294967281 ∧ s.key.length ≤ 140737488351232 ∧ s.sig.length ≤ 140737488351232 := fun s hs => ⟨hsm.2.2 s hs, (ho11 s hs).2.1, (ho11 s hs).2.2⟩
  refine c_seq fun K1 hK1 => ?_
  refine c_region ?_
  refine s_box rfl rfl rfl fun g1 w1 N1 => ?_
  have Lg1_E := N1.le E
  replace E := E.then N1.mod
  have Bg1 := N1.blk
  refine sv (o_as rfl) rfl ?_
  refine l_nil ?_
  refine e_K (hK1 _ _ _ _ ?_)
  refine c_seq fun K2 hK2 => ?_
  refine c_seq fun K3 hK3 => ?_
  by_cases hk0 : (e.prev.length : Int) > 20
  · skip
    refine c_region ?_
    refine sv (o_fa0 fd33_6 rfl) rfl ?_
    refine sv (o_ld sc30 rfl (Bg1.cell rfl)) rfl ?_
    refine sv (o_len Tryd.underlying30 rfl) rfl ?_
    refine sv (o_gtr rfl rfl) rfl ?_
    refine sv (o_mv rfl) rfl ?_
    refine sn rfl (fun e_ => absurd ((decide_eq_true hk0).symm.trans e_) (by decide)) rfl ?_
    refine sn rfl (fun e_ => absurd ((decide_eq_true hk0).symm.trans e_) (by decide)) rfl ?_
    refine sn rfl (fun e_ => absurd ((decide_eq_true hk0).symm.trans e_) (by decide)) rfl ?_
    refine sn rfl (fun e_ => absurd ((decide_eq_true hk0).symm.trans e_) (by decide)) rfl ?_
    refine sv (o_pickT (decide_eq_true hk0) rfl rfl) rfl ?_
    refine l_nil ?_
    refine e_K (hK3 _ _ _ _ ?_)
    refine c_true rfl ?_
    have hmany : 20 < e.prev.length ∨ 10 < e.auth.length := by omega
    refine c_seq fun K4 hK4 => ?_
    refine c_region ?_
    refine sv (o_as rfl) rfl ?_
    refine l_nil ?_
    refine e_K (hK4 _ _ _ _ ?_)
    refine c_ret ?_
    refine e_then (by simp) ?_
    exact ret1 rfl rfl ⟨by rw [EV.chk_many hmany], E⟩
  · skip
    by_cases hk1 : (e.auth.length : Int) > 10
    · skip
      refine c_region ?_
      refine sv (o_fa0 fd33_6 rfl) rfl ?_
      refine sv (o_ld sc30 rfl (Bg1.cell rfl)) rfl ?_
      refine sv (o_len Tryd.underlying30 rfl) rfl ?_
      refine sv (o_gtr rfl rfl) rfl ?_
      refine sv (o_mv rfl) rfl ?_
      refine sg rfl (decide_eq_false hk0) (o_fa0 fd33_7 rfl) rfl ?_
      refine sg rfl (decide_eq_false hk0) (o_ld sc30 rfl (Bg1.cell rfl)) rfl ?_
      refine sg rfl (decide_eq_false hk0) (o_len Tryd.underlying30 rfl) rfl ?_
      refine sg rfl (decide_eq_false hk0) (o_gtr rfl rfl) rfl ?_
      refine sv (o_pickF (decide_eq_false hk0) rfl rfl) rfl ?_
      refine l_nil ?_
      refine e_K (hK3 _ _ _ _ ?_)
      refine c_if rfl (fun h17 => ?_) (fun h17 => absurd hk1 h17)
      have hmany : 20 < e.prev.length ∨ 10 < e.auth.length := by omega
      refine c_seq fun K5 hK5 => ?_
      refine c_region ?_
      refine sv (o_as rfl) rfl ?_
      refine l_nil ?_
      refine e_K (hK5 _ _ _ _ ?_)
      refine c_ret ?_
      refine e_then (by simp) ?_
      exact ret1 rfl rfl ⟨by rw [EV.chk_many hmany], E⟩
    · skip
      refine c_region ?_
      refine sv (o_fa0 fd33_6 rfl) rfl ?_
      refine sv (o_ld sc30 rfl (Bg1.cell rfl)) rfl ?_
      refine sv (o_len Tryd.underlying30 rfl) rfl ?_
      refine sv (o_gtr rfl rfl) rfl ?_
      refine sv (o_mv rfl) rfl ?_
      refine sg rfl (decide_eq_false hk0) (o_fa0 fd33_7 rfl) rfl ?_
      refine sg rfl (decide_eq_false hk0) (o_ld sc30 rfl (Bg1.cell rfl)) rfl ?_
      refine sg rfl (decide_eq_false hk0) (o_len Tryd.underlying30 rfl) rfl ?_
      refine sg rfl (decide_eq_false hk0) (o_gtr rfl rfl) rfl ?_
      refine sv (o_pickF (decide_eq_false hk0) rfl rfl) rfl ?_
      refine l_nil ?_
      refine e_K (hK3 _ _ _ _ ?_)
      refine c_if rfl (fun h17 => absurd h17 hk1) (fun h17 => ?_)
      have hfew : ¬ (20 < e.prev.length ∨ 10 < e.auth.length) := by omega
      refine c_skip ?_
      refine e_K (hK2 _ _ _ _ ?_)
      refine c_seq fun K6 hK6 => ?_
      refine c_region ?_
      refine sv (o_fa0 fd33_5 rfl) rfl ?_
      refine sv (o_lda (vs := [_, _, _, _, _, _]) ag25 rfl rfl (Bg1.cs rfl)) rfl ?_
      refine sc (o_call ent6 rfl) (c_canon _ e.con _ (Rc.to0 E) (hT.mod E (by simp))) rfl fun v_ w2 h_ => ?_
      obtain ⟨rfl, E_⟩ := h_
      replace Bg1 := Bg1.mod0 E_
      replace E := E.then E_
      refine sv (o_mv rfl) rfl ?_
      refine sv (o_ext rfl rfl) rfl ?_
      refine sv (o_ext rfl rfl) rfl ?_
      refine sv (o_as rfl) rfl ?_
      refine sv (o_as rfl) rfl ?_
      refine l_nil ?_
      refine e_K (hK6 _ _ _ _ ?_)
      refine c_seq fun K7 hK7 => ?_
      have J7 : ∀  (w1 : World), Blk w1 g1 33 [S e.room, S e.snd, S e.ty, .bool e.st, S e.key, .int .i64 e.con.kind, .bool e.con.is, .int .i64 e.con.num, S e.con.str, .slice al e.con.list.length cl, .slice am e.con.map.length cm, .slice ap e.prev.length cp, .slice aa e.auth.length ca, .int .i64 e.dep, .int .i64 e.time, S e.hash, .slice aS e.sigs.length cS] ∧ Mod [] w w1 → ∀ a, Has 106 [] [(1, .pointer (some ⟨g1, 0, none⟩)), (4, .int .i64 (ern (e.con.wr 0 []))), (5, .bool e.fine1)] a → K7 a w1 := by
        intro  w3 hI
        obtain ⟨Bg1, E⟩ := hI
        refine hK7 _ _ _ _ ?_
        refine c_seq fun K8 hK8 => ?_
        have J8 : ∀  (w1 : World), Blk w1 g1 33 [S e.room, S e.snd, S e.ty, .bool e.st, S e.key, .int .i64 e.con.kind, .bool e.con.is, .int .i64 e.con.num, S e.con.str, .slice al e.con.list.length cl, .slice am e.con.map.length cm, .slice ap e.prev.length cp, .slice aa e.auth.length ca, .int .i64 e.dep, .int .i64 e.time, S e.hash, .slice aS e.sigs.length cS] ∧ Mod [] w w1 → ∀ a, Has 106 [] [(1, .pointer (some ⟨g1, 0, none⟩)), (5, .bool e.fine2)] a → K8 a w1 := by
          intro  w4 hI
          obtain ⟨Bg1, E⟩ := hI
          refine hK8 _ _ _ _ ?_
          refine c_seq fun K9 hK9 => ?_
          refine c_seq fun K10 hK10 => ?_
          refine c_drawp [7] [0, 1, 2, 3, 4] 5 [6] wide (by kernel_rfl) (fun _ _ _ h => h.2) ?_
          refine pw (fun _ => (o_mv rfl)) rfl rfl ?_
          refine pw_nil ?_
          refine tv (fun w_ E_ => (o_fa0 fd33_6 rfl)) rfl rfl ?_
          refine tv (fun w_ E_ => (o_ld sc30 rfl ((Bg1.mod0 E_).cell rfl))) rfl rfl ?_
          refine tcr (fun u_ w_ => Own w_ 9 1 u_ e.prev.length ((e.prev.map fun s => [S s]).flatten) ∧ ∀ x ∈ ob u_, w.heap.size ≤ x) (fun v_ w1_ w2_ k_ h_ => ⟨h_.1.mod0 k_, h_.2⟩) (fun w_ E_ => o_call ent29 rfl) (fun w_ E_ => Calls.imp (c_cloneS _ e.prev ap cp (Rp.to0 (E.then E_)) (by omega)) fun r_ w2_ hr => ⟨⟨hr.1, fun x hx => Nat.le_trans (E.then E_).size (hr.2.1 x hx)⟩, hr.2.2⟩) rfl rfl rfl ?_
          refine tv (fun w_ E_ => (o_fa0 fd33_7 rfl)) rfl rfl ?_
          refine tv (fun w_ E_ => (o_ld sc30 rfl ((Bg1.mod0 E_).cell rfl))) rfl rfl ?_
          refine tw_tail1 (t := 89) rfl rfl rfl rfl fun w5 v9 E_ h_ => ?_
          obtain ⟨O, L0⟩ := h_
          replace Bg1 := Bg1.mod0 E_
          replace E := E.then E_
          refine s_append sl30 rfl rfl O (Src.flat Tryd.underlying30 (Ra.to0 E)) (by decide) (by omega) (by omega) rfl fun u1 w6 A1 => ?_
          replace E := E.trans' A1.mod (fun x hx => .inr (L0 x hx))
          have O1 : Own w6 9 1 u1 (e.prev ++ e.auth).length (((e.prev ++ e.auth).map fun s => [S s]).flatten) := A1.own.same (by simp) (by simp)
          obtain ⟨ad1, cp1, rfl, hcp1, hcp2⟩ := O1.form
          have RR := Own.strs [] O1 (by simp)
          refine sv (o_len Tryd.underlying30 rfl) rfl ?_
          refine l_nil ?_
          refine e_K (hK10 _ _ _ _ ?_)
          refine c_block ?_
          refine c_loop (σ := Nat × Bool) (fun ⟨k, x⟩ => [(5, .bool x), (92, .slice ad1 (e.prev ++ e.auth).length cp1), (93, .int .i64 ((e.prev ++ e.auth).length : Int)), (94, .int .i64 (k : Int))]) (fun ⟨k, x⟩ w1 => k ≤ (e.prev ++ e.auth).length ∧ x = (e.fine2 && ((e.prev ++ e.auth).take k).all eventB) ∧ Rep [] w1 (strD (e.prev ++ e.auth)) (.slice ad1 (e.prev ++ e.auth).length cp1) ∧ Mod [] w w1) (fun ⟨k, x⟩ => (e.prev ++ e.auth).length - k) (⟨0, e.fine2⟩) ⟨rfl, rfl, rfl, rfl, trivial⟩ (⟨by omega, by simp, RR, E⟩) ?_
          rintro ⟨k, x⟩ w7 ⟨hk, hx, RR, E⟩
          refine c_seq fun K11 hK11 => ?_
          refine c_region ?_
          refine sv (o_lss rfl rfl) rfl ?_
          refine l_nil ?_
          refine e_K (hK11 _ _ _ _ ?_)
          refine c_seq fun K12 hK12 => ?_
          refine c_if rfl (fun h95 => ?_) (fun h95 => ?_)
          · skip
            obtain ⟨y, hy⟩ : ∃ y, (e.prev ++ e.auth)[k]? = some y := ⟨_, List.getElem?_eq_getElem (by omega)⟩
            obtain ⟨a_y, ha_y, hcs_y, _⟩ := flat_at RR hy
            cases ha_y
            have hyl : y.length ≤ 140737488351232 := (List.mem_append.1 (List.mem_of_getElem? hy)).elim (ho6 y) (ho8 y)
            refine c_skip ?_
            refine e_K (hK12 _ _ _ _ ?_)
            refine c_seq fun K13 hK13 => ?_
            refine c_block ?_
            refine c_seq fun K14 hK14 => ?_
            refine c_region ?_
            refine sv (o_ix sl30 rfl rfl (by omega)) rfl ?_
            refine sv (o_ld sc9 rfl hcs_y.first) rfl ?_
            refine sv (o_as rfl) rfl ?_
            refine l_nil ?_
            refine e_K (hK14 _ _ _ _ ?_)
            by_cases hk0 : (x) = true
            · skip
              by_cases hk1 : (eventB y) = true
              · skip
                refine c_region ?_
                refine sv (o_mv rfl) rfl ?_
                refine sv (o_mv rfl) rfl ?_
                refine sg rfl (hk0) (o_mv rfl) rfl ?_
                refine sgc rfl (hk0) (o_call ent30 rfl) (c_event _ y hyl) rfl fun v_ w8 h_ => ?_
                obtain ⟨rfl, E_⟩ := h_
                replace RR := RR.mod0 E_
                replace E := E.then E_
                refine sv (o_pickT (hk0) rfl rfl) rfl ?_
                refine sv ((o_as rfl).to (v' := .bool (x && eventB y)) (congrArg Value.bool (by simp only [hk0, hk1, Bool.true_and, Bool.and_true, Bool.false_and, Bool.and_false, Bool.true_or, Bool.or_true, Bool.false_or, Bool.or_false, Bool.not_true, Bool.not_false]))) rfl ?_
                refine l_nil ?_
                refine e_in (by simp) ?_
                refine e_K (hK13 _ _ _ _ ?_)
                refine c_region ?_
                refine sv (o_addN rfl rfl (by omega)) rfl ?_
                refine sv (o_mv rfl) rfl ?_
                refine l_nil ?_
                exact e_round (σ := Nat × Bool) (s := ⟨k, x⟩) (⟨k + 1, (x && eventB y)⟩) ⟨rfl, rfl, rfl, rfl, trivial⟩ ⟨by omega, by rw [all_succ2 _ hy, ← Bool.and_assoc, ← hx], RR, E⟩ (by dsimp only; omega)
              · skip
                refine c_region ?_
                refine sv (o_mv rfl) rfl ?_
                refine sv (o_mv rfl) rfl ?_
                refine sg rfl (hk0) (o_mv rfl) rfl ?_
                refine sgc rfl (hk0) (o_call ent30 rfl) (c_event _ y hyl) rfl fun v_ w9 h_ => ?_
                obtain ⟨rfl, E_⟩ := h_
                replace RR := RR.mod0 E_
                replace E := E.then E_
                refine sv (o_pickT (hk0) rfl rfl) rfl ?_
                refine sv ((o_as rfl).to (v' := .bool (x && eventB y)) (congrArg Value.bool (by simp only [hk0, Bool.eq_false_iff.2 hk1, Bool.true_and, Bool.and_true, Bool.false_and, Bool.and_false, Bool.true_or, Bool.or_true, Bool.false_or, Bool.or_false, Bool.not_true, Bool.not_false]))) rfl ?_
                refine l_nil ?_
                refine e_in (by simp) ?_
                refine e_K (hK13 _ _ _ _ ?_)
                refine c_region ?_
                refine sv (o_addN rfl rfl (by omega)) rfl ?_
                refine sv (o_mv rfl) rfl ?_
                refine l_nil ?_
                exact e_round (σ := Nat × Bool) (s := ⟨k, x⟩) (⟨k + 1, (x && eventB y)⟩) ⟨rfl, rfl, rfl, rfl, trivial⟩ ⟨by omega, by rw [all_succ2 _ hy, ← Bool.and_assoc, ← hx], RR, E⟩ (by dsimp only; omega)
            · skip
              refine c_region ?_
              refine sv (o_mv rfl) rfl ?_
              refine sv (o_mv rfl) rfl ?_
              refine sn rfl (fun e_ => absurd ((Bool.eq_false_iff.2 hk0).symm.trans e_) (by decide)) rfl ?_
              refine sn rfl (fun e_ => absurd ((Bool.eq_false_iff.2 hk0).symm.trans e_) (by decide)) rfl ?_
              refine sv (o_pickF (Bool.eq_false_iff.2 hk0) rfl rfl) rfl ?_
              refine sv ((o_as rfl).to (v' := .bool (x && eventB y)) (congrArg Value.bool (by simp only [Bool.eq_false_iff.2 hk0, Bool.true_and, Bool.and_true, Bool.false_and, Bool.and_false, Bool.true_or, Bool.or_true, Bool.false_or, Bool.or_false, Bool.not_true, Bool.not_false]))) rfl ?_
              refine l_nil ?_
              refine e_in (by simp) ?_
              refine e_K (hK13 _ _ _ _ ?_)
              refine c_region ?_
              refine sv (o_addN rfl rfl (by omega)) rfl ?_
              refine sv (o_mv rfl) rfl ?_
              refine l_nil ?_
              exact e_round (σ := Nat × Bool) (s := ⟨k, x⟩) (⟨k + 1, (x && eventB y)⟩) ⟨rfl, rfl, rfl, rfl, trivial⟩ ⟨by omega, by rw [all_succ2 _ hy, ← Bool.and_assoc, ← hx], RR, E⟩ (by dsimp only; omega)
          · skip
            have hx9 : x = e.fine := by rw [hx, List.take_of_length_le (by omega)]; rfl
            refine c_exit ?_
            refine e_then (by simp) ?_
            refine e_then (by simp) ?_
            refine e_hit ?_
            refine e_K (hK9 _ _ _ _ ?_)
            refine c_seq fun K15 hK15 => ?_
            refine c_seq fun K16 hK16 => ?_
            refine c_region ?_
            refine sv (o_mv rfl) rfl ?_
            refine sv (o_not rfl) rfl ?_
            refine l_nil ?_
            refine e_K (hK16 _ _ _ _ ?_)
            refine c_cond rfl (fun h105 => ?_) (fun h105 => ?_)
            · skip
              have hF : e.fine = false := by rw [← hx9]; simpa using h105
              refine c_seq fun K17 hK17 => ?_
              refine c_region ?_
              refine sv (o_as rfl) rfl ?_
              refine l_nil ?_
              refine e_K (hK17 _ _ _ _ ?_)
              refine c_ret ?_
              refine e_then (by simp) ?_
              exact ret1 rfl rfl ⟨by rw [EV.chk_no hfew hF], E⟩
            · skip
              have hF : e.fine = true := by rw [← hx9]; simpa using h105
              refine c_skip ?_
              refine e_K (hK15 _ _ _ _ ?_)
              refine c_seq fun K18 hK18 => ?_
              refine c_region ?_
              refine sv (o_as rfl) rfl ?_
              refine l_nil ?_
              refine e_K (hK18 _ _ _ _ ?_)
              refine c_ret ?_
              exact ret1 rfl rfl ⟨by rw [EV.chk_yes hfew hF], E⟩
        by_cases hk0 : (e.fine1) = true
        · skip
          by_cases hk1 : e.con.kind = 5
          · skip
            by_cases hk2 : ern (e.con.wr 0 []) = 0
            · skip
              by_cases hk3 : (numB e.dep) = true
              · skip
                by_cases hk4 : (numB e.time) = true
                · skip
                  by_cases hk5 : (bytesB e.hash 32) = true
                  · skip
                    by_cases hk6 : (sigsL none e.sigs) = true
                    · skip
                      refine c_region ?_
                      refine sv (o_mv rfl) rfl ?_
                      refine sv (o_mv rfl) rfl ?_
                      refine sg rfl (hk0) (o_fa0 fd33_5 rfl) rfl ?_
                      refine sg rfl (hk0) (o_fa fd25_0 rfl) rfl ?_
                      refine sg rfl (hk0) (o_ld sc3 rfl (Bg1.cell rfl)) rfl ?_
                      refine sg rfl (hk0) (o_eql rfl rfl) rfl ?_
                      refine sv (o_pickT (hk0) rfl rfl) rfl ?_
                      refine sv (o_mv rfl) rfl ?_
                      refine sg rfl (decide_eq_true hk1) (o_mv rfl) rfl ?_
                      refine sg rfl (decide_eq_true hk1) (o_eql rfl rfl) rfl ?_
                      refine sv (o_pickT (decide_eq_true hk1) rfl rfl) rfl ?_
                      refine sv (o_mv rfl) rfl ?_
                      refine sg rfl (decide_eq_true hk2) (o_fa0 fd33_8 rfl) rfl ?_
                      refine sg rfl (decide_eq_true hk2) (o_ld sc3 rfl (Bg1.cell rfl)) rfl ?_
                      refine sgc rfl (decide_eq_true hk2) (o_call ent26 rfl) (c_number _ _) rfl fun v_ w10 h_ => ?_
                      obtain ⟨rfl, E_⟩ := h_
                      replace Bg1 := Bg1.mod0 E_
                      replace E := E.then E_
                      refine sv (o_pickT (decide_eq_true hk2) rfl rfl) rfl ?_
                      refine sv (o_mv rfl) rfl ?_
                      refine sg rfl (hk3) (o_fa0 fd33_9 rfl) rfl ?_
                      refine sg rfl (hk3) (o_ld sc3 rfl (Bg1.cell rfl)) rfl ?_
                      refine sgc rfl (hk3) (o_call ent26 rfl) (c_number _ _) rfl fun v_ w11 h_ => ?_
                      obtain ⟨rfl, E_⟩ := h_
                      replace Bg1 := Bg1.mod0 E_
                      replace E := E.then E_
                      refine sv (o_pickT (hk3) rfl rfl) rfl ?_
                      refine sv (o_mv rfl) rfl ?_
                      refine sg rfl (hk4) (o_fa0 fd33_10 rfl) rfl ?_
                      refine sg rfl (hk4) (o_ld sc9 rfl (Bg1.cell rfl)) rfl ?_
                      refine sgc rfl (hk4) (o_call ent27 rfl) (c_bytes _ e.hash 32 ho10) rfl fun v_ w12 h_ => ?_
                      obtain ⟨rfl, E_⟩ := h_
                      replace Bg1 := Bg1.mod0 E_
                      replace E := E.then E_
                      refine sv (o_pickT (hk4) rfl rfl) rfl ?_
                      refine sv (o_mv rfl) rfl ?_
                      refine sg rfl (hk5) (o_fa0 fd33_11 rfl) rfl ?_
                      refine sg rfl (hk5) (o_ld sc31 rfl (Bg1.cell rfl)) rfl ?_
                      refine sgc rfl (hk5) (o_call ent28 rfl) (c_sigs _ e.sigs aS cS (Rs.to0 E) hslen ho12 (hM.mod0 E)) rfl fun v_ w13 h_ => ?_
                      obtain ⟨rfl, E_⟩ := h_
                      replace Bg1 := Bg1.mod0 E_
                      replace E := E.then E_
                      refine sv (o_pickT (hk5) rfl rfl) rfl ?_
                      refine sv ((o_as rfl).to (v' := .bool e.fine2) (congrArg Value.bool (by rw [EV.fine2]; simp only [hk0, decide_eq_true hk1, decide_eq_true hk2, hk3, hk4, hk5, hk6, Bool.true_and, Bool.and_true, Bool.false_and, Bool.and_false, Bool.true_or, Bool.or_true, Bool.false_or, Bool.or_false, Bool.not_true, Bool.not_false]))) rfl ?_
                      refine l_nil ?_
                      refine WE.sub (l' := [(1, _), (5, _)]) ⟨rfl, rfl, trivial⟩ (e_K (J8  w13 ⟨Bg1, E⟩))
                    · skip
                      refine c_region ?_
                      refine sv (o_mv rfl) rfl ?_
                      refine sv (o_mv rfl) rfl ?_
                      refine sg rfl (hk0) (o_fa0 fd33_5 rfl) rfl ?_
                      refine sg rfl (hk0) (o_fa fd25_0 rfl) rfl ?_
                      refine sg rfl (hk0) (o_ld sc3 rfl (Bg1.cell rfl)) rfl ?_
                      refine sg rfl (hk0) (o_eql rfl rfl) rfl ?_
                      refine sv (o_pickT (hk0) rfl rfl) rfl ?_
                      refine sv (o_mv rfl) rfl ?_
                      refine sg rfl (decide_eq_true hk1) (o_mv rfl) rfl ?_
                      refine sg rfl (decide_eq_true hk1) (o_eql rfl rfl) rfl ?_
                      refine sv (o_pickT (decide_eq_true hk1) rfl rfl) rfl ?_
                      refine sv (o_mv rfl) rfl ?_
                      refine sg rfl (decide_eq_true hk2) (o_fa0 fd33_8 rfl) rfl ?_
                      refine sg rfl (decide_eq_true hk2) (o_ld sc3 rfl (Bg1.cell rfl)) rfl ?_
                      refine sgc rfl (decide_eq_true hk2) (o_call ent26 rfl) (c_number _ _) rfl fun v_ w14 h_ => ?_
                      obtain ⟨rfl, E_⟩ := h_
                      replace Bg1 := Bg1.mod0 E_
                      replace E := E.then E_
                      refine sv (o_pickT (decide_eq_true hk2) rfl rfl) rfl ?_
                      refine sv (o_mv rfl) rfl ?_
                      refine sg rfl (hk3) (o_fa0 fd33_9 rfl) rfl ?_
                      refine sg rfl (hk3) (o_ld sc3 rfl (Bg1.cell rfl)) rfl ?_
                      refine sgc rfl (hk3) (o_call ent26 rfl) (c_number _ _) rfl fun v_ w15 h_ => ?_
                      obtain ⟨rfl, E_⟩ := h_
                      replace Bg1 := Bg1.mod0 E_
                      replace E := E.then E_
                      refine sv (o_pickT (hk3) rfl rfl) rfl ?_
                      refine sv (o_mv rfl) rfl ?_
                      refine sg rfl (hk4) (o_fa0 fd33_10 rfl) rfl ?_
                      refine sg rfl (hk4) (o_ld sc9 rfl (Bg1.cell rfl)) rfl ?_
                      refine sgc rfl (hk4) (o_call ent27 rfl) (c_bytes _ e.hash 32 ho10) rfl fun v_ w16 h_ => ?_
                      obtain ⟨rfl, E_⟩ := h_
                      replace Bg1 := Bg1.mod0 E_
                      replace E := E.then E_
                      refine sv (o_pickT (hk4) rfl rfl) rfl ?_
                      refine sv (o_mv rfl) rfl ?_
                      refine sg rfl (hk5) (o_fa0 fd33_11 rfl) rfl ?_
                      refine sg rfl (hk5) (o_ld sc31 rfl (Bg1.cell rfl)) rfl ?_
                      refine sgc rfl (hk5) (o_call ent28 rfl) (c_sigs _ e.sigs aS cS (Rs.to0 E) hslen ho12 (hM.mod0 E)) rfl fun v_ w17 h_ => ?_
                      obtain ⟨rfl, E_⟩ := h_
                      replace Bg1 := Bg1.mod0 E_
                      replace E := E.then E_
                      refine sv (o_pickT (hk5) rfl rfl) rfl ?_
                      refine sv ((o_as rfl).to (v' := .bool e.fine2) (congrArg Value.bool (by rw [EV.fine2]; simp only [hk0, decide_eq_true hk1, decide_eq_true hk2, hk3, hk4, hk5, Bool.eq_false_iff.2 hk6, Bool.true_and, Bool.and_true, Bool.false_and, Bool.and_false, Bool.true_or, Bool.or_true, Bool.false_or, Bool.or_false, Bool.not_true, Bool.not_false]))) rfl ?_
                      refine l_nil ?_
                      refine WE.sub (l' := [(1, _), (5, _)]) ⟨rfl, rfl, trivial⟩ (e_K (J8  w17 ⟨Bg1, E⟩))
                  · skip
                    refine c_region ?_
                    refine sv (o_mv rfl) rfl ?_
                    refine sv (o_mv rfl) rfl ?_
                    refine sg rfl (hk0) (o_fa0 fd33_5 rfl) rfl ?_
                    refine sg rfl (hk0) (o_fa fd25_0 rfl) rfl ?_
                    refine sg rfl (hk0) (o_ld sc3 rfl (Bg1.cell rfl)) rfl ?_
                    refine sg rfl (hk0) (o_eql rfl rfl) rfl ?_
                    refine sv (o_pickT (hk0) rfl rfl) rfl ?_
                    refine sv (o_mv rfl) rfl ?_
                    refine sg rfl (decide_eq_true hk1) (o_mv rfl) rfl ?_
                    refine sg rfl (decide_eq_true hk1) (o_eql rfl rfl) rfl ?_
                    refine sv (o_pickT (decide_eq_true hk1) rfl rfl) rfl ?_
                    refine sv (o_mv rfl) rfl ?_
                    refine sg rfl (decide_eq_true hk2) (o_fa0 fd33_8 rfl) rfl ?_
                    refine sg rfl (decide_eq_true hk2) (o_ld sc3 rfl (Bg1.cell rfl)) rfl ?_
                    refine sgc rfl (decide_eq_true hk2) (o_call ent26 rfl) (c_number _ _) rfl fun v_ w18 h_ => ?_
                    obtain ⟨rfl, E_⟩ := h_
                    replace Bg1 := Bg1.mod0 E_
                    replace E := E.then E_
                    refine sv (o_pickT (decide_eq_true hk2) rfl rfl) rfl ?_
                    refine sv (o_mv rfl) rfl ?_
                    refine sg rfl (hk3) (o_fa0 fd33_9 rfl) rfl ?_
                    refine sg rfl (hk3) (o_ld sc3 rfl (Bg1.cell rfl)) rfl ?_
                    refine sgc rfl (hk3) (o_call ent26 rfl) (c_number _ _) rfl fun v_ w19 h_ => ?_
                    obtain ⟨rfl, E_⟩ := h_
                    replace Bg1 := Bg1.mod0 E_
                    replace E := E.then E_
                    refine sv (o_pickT (hk3) rfl rfl) rfl ?_
                    refine sv (o_mv rfl) rfl ?_
                    refine sg rfl (hk4) (o_fa0 fd33_10 rfl) rfl ?_
                    refine sg rfl (hk4) (o_ld sc9 rfl (Bg1.cell rfl)) rfl ?_
                    refine sgc rfl (hk4) (o_call ent27 rfl) (c_bytes _ e.hash 32 ho10) rfl fun v_ w20 h_ => ?_
                    obtain ⟨rfl, E_⟩ := h_
                    replace Bg1 := Bg1.mod0 E_
                    replace E := E.then E_
                    refine sv (o_pickT (hk4) rfl rfl) rfl ?_
                    refine sv (o_mv rfl) rfl ?_
                    refine sn rfl (fun e_ => absurd ((Bool.eq_false_iff.2 hk5).symm.trans e_) (by decide)) rfl ?_
                    refine sn rfl (fun e_ => absurd ((Bool.eq_false_iff.2 hk5).symm.trans e_) (by decide)) rfl ?_
                    refine sn rfl (fun e_ => absurd ((Bool.eq_false_iff.2 hk5).symm.trans e_) (by decide)) rfl ?_
                    refine sv (o_pickF (Bool.eq_false_iff.2 hk5) rfl rfl) rfl ?_
                    refine sv ((o_as rfl).to (v' := .bool e.fine2) (congrArg Value.bool (by rw [EV.fine2]; simp only [hk0, decide_eq_true hk1, decide_eq_true hk2, hk3, hk4, Bool.eq_false_iff.2 hk5, Bool.true_and, Bool.and_true, Bool.false_and, Bool.and_false, Bool.true_or, Bool.or_true, Bool.false_or, Bool.or_false, Bool.not_true, Bool.not_false]))) rfl ?_
                    refine l_nil ?_
                    refine WE.sub (l' := [(1, _), (5, _)]) ⟨rfl, rfl, trivial⟩ (e_K (J8  w20 ⟨Bg1, E⟩))
                · skip
                  refine c_region ?_
                  refine sv (o_mv rfl) rfl ?_
                  refine sv (o_mv rfl) rfl ?_
                  refine sg rfl (hk0) (o_fa0 fd33_5 rfl) rfl ?_
                  refine sg rfl (hk0) (o_fa fd25_0 rfl) rfl ?_
                  refine sg rfl (hk0) (o_ld sc3 rfl (Bg1.cell rfl)) rfl ?_
                  refine sg rfl (hk0) (o_eql rfl rfl) rfl ?_
                  refine sv (o_pickT (hk0) rfl rfl) rfl ?_
                  refine sv (o_mv rfl) rfl ?_
                  refine sg rfl (decide_eq_true hk1) (o_mv rfl) rfl ?_
                  refine sg rfl (decide_eq_true hk1) (o_eql rfl rfl) rfl ?_
                  refine sv (o_pickT (decide_eq_true hk1) rfl rfl) rfl ?_
                  refine sv (o_mv rfl) rfl ?_
                  refine sg rfl (decide_eq_true hk2) (o_fa0 fd33_8 rfl) rfl ?_
                  refine sg rfl (decide_eq_true hk2) (o_ld sc3 rfl (Bg1.cell rfl)) rfl ?_
                  refine sgc rfl (decide_eq_true hk2) (o_call ent26 rfl) (c_number _ _) rfl fun v_ w21 h_ => ?_
                  obtain ⟨rfl, E_⟩ := h_
                  replace Bg1 := Bg1.mod0 E_
                  replace E := E.then E_
                  refine sv (o_pickT (decide_eq_true hk2) rfl rfl) rfl ?_
                  refine sv (o_mv rfl) rfl ?_
                  refine sg rfl (hk3) (o_fa0 fd33_9 rfl) rfl ?_
                  refine sg rfl (hk3) (o_ld sc3 rfl (Bg1.cell rfl)) rfl ?_
                  refine sgc rfl (hk3) (o_call ent26 rfl) (c_number _ _) rfl fun v_ w22 h_ => ?_
                  obtain ⟨rfl, E_⟩ := h_
                  replace Bg1 := Bg1.mod0 E_
                  replace E := E.then E_
                  refine sv (o_pickT (hk3) rfl rfl) rfl ?_
                  refine sv (o_mv rfl) rfl ?_
                  refine sn rfl (fun e_ => absurd ((Bool.eq_false_iff.2 hk4).symm.trans e_) (by decide)) rfl ?_
                  refine sn rfl (fun e_ => absurd ((Bool.eq_false_iff.2 hk4).symm.trans e_) (by decide)) rfl ?_
                  refine sn rfl (fun e_ => absurd ((Bool.eq_false_iff.2 hk4).symm.trans e_) (by decide)) rfl ?_
                  refine sv (o_pickF (Bool.eq_false_iff.2 hk4) rfl rfl) rfl ?_
                  refine sv (o_mv rfl) rfl ?_
                  refine sn rfl (fun e_ => absurd ((rfl).symm.trans e_) (by decide)) rfl ?_
                  refine sn rfl (fun e_ => absurd ((rfl).symm.trans e_) (by decide)) rfl ?_
                  refine sn rfl (fun e_ => absurd ((rfl).symm.trans e_) (by decide)) rfl ?_
                  refine sv (o_pickF (rfl) rfl rfl) rfl ?_
                  refine sv ((o_as rfl).to (v' := .bool e.fine2) (congrArg Value.bool (by rw [EV.fine2]; simp only [hk0, decide_eq_true hk1, decide_eq_true hk2, hk3, Bool.eq_false_iff.2 hk4, Bool.true_and, Bool.and_true, Bool.false_and, Bool.and_false, Bool.true_or, Bool.or_true, Bool.false_or, Bool.or_false, Bool.not_true, Bool.not_false]))) rfl ?_
                  refine l_nil ?_
                  refine WE.sub (l' := [(1, _), (5, _)]) ⟨rfl, rfl, trivial⟩ (e_K (J8  w22 ⟨Bg1, E⟩))
              · skip
                refine c_region ?_
                refine sv (o_mv rfl) rfl ?_
                refine sv (o_mv rfl) rfl ?_
                refine sg rfl (hk0) (o_fa0 fd33_5 rfl) rfl ?_
                refine sg rfl (hk0) (o_fa fd25_0 rfl) rfl ?_
                refine sg rfl (hk0) (o_ld sc3 rfl (Bg1.cell rfl)) rfl ?_
                refine sg rfl (hk0) (o_eql rfl rfl) rfl ?_
                refine sv (o_pickT (hk0) rfl rfl) rfl ?_
                refine sv (o_mv rfl) rfl ?_
                refine sg rfl (decide_eq_true hk1) (o_mv rfl) rfl ?_
                refine sg rfl (decide_eq_true hk1) (o_eql rfl rfl) rfl ?_
                refine sv (o_pickT (decide_eq_true hk1) rfl rfl) rfl ?_
                refine sv (o_mv rfl) rfl ?_
                refine sg rfl (decide_eq_true hk2) (o_fa0 fd33_8 rfl) rfl ?_
                refine sg rfl (decide_eq_true hk2) (o_ld sc3 rfl (Bg1.cell rfl)) rfl ?_
                refine sgc rfl (decide_eq_true hk2) (o_call ent26 rfl) (c_number _ _) rfl fun v_ w23 h_ => ?_
                obtain ⟨rfl, E_⟩ := h_
                replace Bg1 := Bg1.mod0 E_
                replace E := E.then E_
                refine sv (o_pickT (decide_eq_true hk2) rfl rfl) rfl ?_
                refine sv (o_mv rfl) rfl ?_
                refine sn rfl (fun e_ => absurd ((Bool.eq_false_iff.2 hk3).symm.trans e_) (by decide)) rfl ?_
                refine sn rfl (fun e_ => absurd ((Bool.eq_false_iff.2 hk3).symm.trans e_) (by decide)) rfl ?_
                refine sn rfl (fun e_ => absurd ((Bool.eq_false_iff.2 hk3).symm.trans e_) (by decide)) rfl ?_
                refine sv (o_pickF (Bool.eq_false_iff.2 hk3) rfl rfl) rfl ?_
                refine sv (o_mv rfl) rfl ?_
                refine sn rfl (fun e_ => absurd ((rfl).symm.trans e_) (by decide)) rfl ?_
                refine sn rfl (fun e_ => absurd ((rfl).symm.trans e_) (by decide)) rfl ?_
                refine sn rfl (fun e_ => absurd ((rfl).symm.trans e_) (by decide)) rfl ?_
                refine sv (o_pickF (rfl) rfl rfl) rfl ?_
                refine sv (o_mv rfl) rfl ?_
                refine sn rfl (fun e_ => absurd ((rfl).symm.trans e_) (by decide)) rfl ?_
                refine sn rfl (fun e_ => absurd ((rfl).symm.trans e_) (by decide)) rfl ?_
                refine sn rfl (fun e_ => absurd ((rfl).symm.trans e_) (by decide)) rfl ?_
                refine sv (o_pickF (rfl) rfl rfl) rfl ?_
                refine sv ((o_as rfl).to (v' := .bool e.fine2) (congrArg Value.bool (by rw [EV.fine2]; simp only [hk0, decide_eq_true hk1, decide_eq_true hk2, Bool.eq_false_iff.2 hk3, Bool.true_and, Bool.and_true, Bool.false_and, Bool.and_false, Bool.true_or, Bool.or_true, Bool.false_or, Bool.or_false, Bool.not_true, Bool.not_false]))) rfl ?_
                refine l_nil ?_
                refine WE.sub (l' := [(1, _), (5, _)]) ⟨rfl, rfl, trivial⟩ (e_K (J8  w23 ⟨Bg1, E⟩))
            · skip
              refine c_region ?_
              refine sv (o_mv rfl) rfl ?_
              refine sv (o_mv rfl) rfl ?_
              refine sg rfl (hk0) (o_fa0 fd33_5 rfl) rfl ?_
              refine sg rfl (hk0) (o_fa fd25_0 rfl) rfl ?_
              refine sg rfl (hk0) (o_ld sc3 rfl (Bg1.cell rfl)) rfl ?_
              refine sg rfl (hk0) (o_eql rfl rfl) rfl ?_
              refine sv (o_pickT (hk0) rfl rfl) rfl ?_
              refine sv (o_mv rfl) rfl ?_
              refine sg rfl (decide_eq_true hk1) (o_mv rfl) rfl ?_
              refine sg rfl (decide_eq_true hk1) (o_eql rfl rfl) rfl ?_
              refine sv (o_pickT (decide_eq_true hk1) rfl rfl) rfl ?_
              refine sv (o_mv rfl) rfl ?_
              refine sn rfl (fun e_ => absurd ((decide_eq_false hk2).symm.trans e_) (by decide)) rfl ?_
              refine sn rfl (fun e_ => absurd ((decide_eq_false hk2).symm.trans e_) (by decide)) rfl ?_
              refine sn rfl (fun e_ => absurd ((decide_eq_false hk2).symm.trans e_) (by decide)) rfl ?_
              refine sv (o_pickF (decide_eq_false hk2) rfl rfl) rfl ?_
              refine sv (o_mv rfl) rfl ?_
              refine sn rfl (fun e_ => absurd ((rfl).symm.trans e_) (by decide)) rfl ?_
              refine sn rfl (fun e_ => absurd ((rfl).symm.trans e_) (by decide)) rfl ?_
              refine sn rfl (fun e_ => absurd ((rfl).symm.trans e_) (by decide)) rfl ?_
              refine sv (o_pickF (rfl) rfl rfl) rfl ?_
              refine sv (o_mv rfl) rfl ?_
              refine sn rfl (fun e_ => absurd ((rfl).symm.trans e_) (by decide)) rfl ?_
              refine sn rfl (fun e_ => absurd ((rfl).symm.trans e_) (by decide)) rfl ?_
              refine sn rfl (fun e_ => absurd ((rfl).symm.trans e_) (by decide)) rfl ?_
              refine sv (o_pickF (rfl) rfl rfl) rfl ?_
              refine sv (o_mv rfl) rfl ?_
              refine sn rfl (fun e_ => absurd ((rfl).symm.trans e_) (by decide)) rfl ?_
              refine sn rfl (fun e_ => absurd ((rfl).symm.trans e_) (by decide)) rfl ?_
              refine sn rfl (fun e_ => absurd ((rfl).symm.trans e_) (by decide)) rfl ?_
              refine sv (o_pickF (rfl) rfl rfl) rfl ?_
              refine sv ((o_as rfl).to (v' := .bool e.fine2) (congrArg Value.bool (by rw [EV.fine2]; simp only [hk0, decide_eq_true hk1, decide_eq_false hk2, Bool.true_and, Bool.and_true, Bool.false_and, Bool.and_false, Bool.true_or, Bool.or_true, Bool.false_or, Bool.or_false, Bool.not_true, Bool.not_false]))) rfl ?_
              refine l_nil ?_
              refine WE.sub (l' := [(1, _), (5, _)]) ⟨rfl, rfl, trivial⟩ (e_K (J8  w3 ⟨Bg1, E⟩))
          · skip
            refine c_region ?_
            refine sv (o_mv rfl) rfl ?_
            refine sv (o_mv rfl) rfl ?_
            refine sg rfl (hk0) (o_fa0 fd33_5 rfl) rfl ?_
            refine sg rfl (hk0) (o_fa fd25_0 rfl) rfl ?_
            refine sg rfl (hk0) (o_ld sc3 rfl (Bg1.cell rfl)) rfl ?_
            refine sg rfl (hk0) (o_eql rfl rfl) rfl ?_
            refine sv (o_pickT (hk0) rfl rfl) rfl ?_
            refine sv (o_mv rfl) rfl ?_
            refine sn rfl (fun e_ => absurd ((decide_eq_false hk1).symm.trans e_) (by decide)) rfl ?_
            refine sn rfl (fun e_ => absurd ((decide_eq_false hk1).symm.trans e_) (by decide)) rfl ?_
            refine sv (o_pickF (decide_eq_false hk1) rfl rfl) rfl ?_
            refine sv (o_mv rfl) rfl ?_
            refine sn rfl (fun e_ => absurd ((rfl).symm.trans e_) (by decide)) rfl ?_
            refine sn rfl (fun e_ => absurd ((rfl).symm.trans e_) (by decide)) rfl ?_
            refine sn rfl (fun e_ => absurd ((rfl).symm.trans e_) (by decide)) rfl ?_
            refine sv (o_pickF (rfl) rfl rfl) rfl ?_
            refine sv (o_mv rfl) rfl ?_
            refine sn rfl (fun e_ => absurd ((rfl).symm.trans e_) (by decide)) rfl ?_
            refine sn rfl (fun e_ => absurd ((rfl).symm.trans e_) (by decide)) rfl ?_
            refine sn rfl (fun e_ => absurd ((rfl).symm.trans e_) (by decide)) rfl ?_
            refine sv (o_pickF (rfl) rfl rfl) rfl ?_
            refine sv (o_mv rfl) rfl ?_
            refine sn rfl (fun e_ => absurd ((rfl).symm.trans e_) (by decide)) rfl ?_
            refine sn rfl (fun e_ => absurd ((rfl).symm.trans e_) (by decide)) rfl ?_
            refine sn rfl (fun e_ => absurd ((rfl).symm.trans e_) (by decide)) rfl ?_
            refine sv (o_pickF (rfl) rfl rfl) rfl ?_
            refine sv (o_mv rfl) rfl ?_
            refine sn rfl (fun e_ => absurd ((rfl).symm.trans e_) (by decide)) rfl ?_
            refine sn rfl (fun e_ => absurd ((rfl).symm.trans e_) (by decide)) rfl ?_
            refine sn rfl (fun e_ => absurd ((rfl).symm.trans e_) (by decide)) rfl ?_
            refine sv (o_pickF (rfl) rfl rfl) rfl ?_
            refine sv ((o_as rfl).to (v' := .bool e.fine2) (congrArg Value.bool (by rw [EV.fine2]; simp only [hk0, decide_eq_false hk1, Bool.true_and, Bool.and_true, Bool.false_and, Bool.and_false, Bool.true_or, Bool.or_true, Bool.false_or, Bool.or_false, Bool.not_true, Bool.not_false]))) rfl ?_
            refine l_nil ?_
            refine WE.sub (l' := [(1, _), (5, _)]) ⟨rfl, rfl, trivial⟩ (e_K (J8  w3 ⟨Bg1, E⟩))
        · skip
          refine c_region ?_
          refine sv (o_mv rfl) rfl ?_
          refine sv (o_mv rfl) rfl ?_
          refine sn rfl (fun e_ => absurd ((Bool.eq_false_iff.2 hk0).symm.trans e_) (by decide)) rfl ?_
          refine sn rfl (fun e_ => absurd ((Bool.eq_false_iff.2 hk0).symm.trans e_) (by decide)) rfl ?_
          refine sn rfl (fun e_ => absurd ((Bool.eq_false_iff.2 hk0).symm.trans e_) (by decide)) rfl ?_
          refine sn rfl (fun e_ => absurd ((Bool.eq_false_iff.2 hk0).symm.trans e_) (by decide)) rfl ?_
          refine sv (o_pickF (Bool.eq_false_iff.2 hk0) rfl rfl) rfl ?_
          refine sv (o_mv rfl) rfl ?_
          refine sn rfl (fun e_ => absurd ((rfl).symm.trans e_) (by decide)) rfl ?_
          refine sn rfl (fun e_ => absurd ((rfl).symm.trans e_) (by decide)) rfl ?_
          refine sv (o_pickF (rfl) rfl rfl) rfl ?_
          refine sv (o_mv rfl) rfl ?_
          refine sn rfl (fun e_ => absurd ((rfl).symm.trans e_) (by decide)) rfl ?_
          refine sn rfl (fun e_ => absurd ((rfl).symm.trans e_) (by decide)) rfl ?_
          refine sn rfl (fun e_ => absurd ((rfl).symm.trans e_) (by decide)) rfl ?_
          refine sv (o_pickF (rfl) rfl rfl) rfl ?_
          refine sv (o_mv rfl) rfl ?_
          refine sn rfl (fun e_ => absurd ((rfl).symm.trans e_) (by decide)) rfl ?_
          refine sn rfl (fun e_ => absurd ((rfl).symm.trans e_) (by decide)) rfl ?_
          refine sn rfl (fun e_ => absurd ((rfl).symm.trans e_) (by decide)) rfl ?_
          refine sv (o_pickF (rfl) rfl rfl) rfl ?_
          refine sv (o_mv rfl) rfl ?_
          refine sn rfl (fun e_ => absurd ((rfl).symm.trans e_) (by decide)) rfl ?_
          refine sn rfl (fun e_ => absurd ((rfl).symm.trans e_) (by decide)) rfl ?_
          refine sn rfl (fun e_ => absurd ((rfl).symm.trans e_) (by decide)) rfl ?_
          refine sv (o_pickF (rfl) rfl rfl) rfl ?_
          refine sv (o_mv rfl) rfl ?_
          refine sn rfl (fun e_ => absurd ((rfl).symm.trans e_) (by decide)) rfl ?_
          refine sn rfl (fun e_ => absurd ((rfl).symm.trans e_) (by decide)) rfl ?_
          refine sn rfl (fun e_ => absurd ((rfl).symm.trans e_) (by decide)) rfl ?_
          refine sv (o_pickF (rfl) rfl rfl) rfl ?_
          refine sv ((o_as rfl).to (v' := .bool e.fine2) (congrArg Value.bool (by rw [EV.fine2]; simp only [Bool.eq_false_iff.2 hk0, Bool.true_and, Bool.and_true, Bool.false_and, Bool.and_false, Bool.true_or, Bool.or_true, Bool.false_or, Bool.or_false, Bool.not_true, Bool.not_false]))) rfl ?_
          refine l_nil ?_
          refine WE.sub (l' := [(1, _), (5, _)]) ⟨rfl, rfl, trivial⟩ (e_K (J8  w3 ⟨Bg1, E⟩))
      by_cases hk0 : (namedB 33 qRoom e.room) = true
      · skip
        by_cases hk1 : (namedB 64 qUser e.snd) = true
        · skip
          by_cases hk2 : e.ty ≠ []
          · skip
            by_cases hk3 : (shortB e.ty) = true
            · skip
              by_cases hk4 : (shortB e.key) = true
              · skip
                by_cases hk5 : (e.st) = true
                · skip
                  refine c_region ?_
                  refine sv (o_fa0 fd33_0 rfl) rfl ?_
                  refine sv (o_ld sc9 rfl (Bg1.cell rfl)) rfl ?_
                  refine sc (o_call ent23 rfl) (c_room _ e.room hsm.1 (hM.mod0 E)) rfl fun v_ w24 h_ => ?_
                  obtain ⟨rfl, E_⟩ := h_
                  replace Bg1 := Bg1.mod0 E_
                  replace E := E.then E_
                  refine sv (o_mv rfl) rfl ?_
                  refine sg rfl (hk0) (o_fa0 fd33_1 rfl) rfl ?_
                  refine sg rfl (hk0) (o_ld sc9 rfl (Bg1.cell rfl)) rfl ?_
                  refine sgc rfl (hk0) (o_call ent24 rfl) (c_user _ e.snd hsm.2.1 (hM.mod0 E)) rfl fun v_ w25 h_ => ?_
                  obtain ⟨rfl, E_⟩ := h_
                  replace Bg1 := Bg1.mod0 E_
                  replace E := E.then E_
                  refine sv (o_pickT (hk0) rfl rfl) rfl ?_
                  refine sv (o_mv rfl) rfl ?_
                  refine sg rfl (hk1) (o_fa0 fd33_2 rfl) rfl ?_
                  refine sg rfl (hk1) (o_ld sc9 rfl (Bg1.cell rfl)) rfl ?_
                  refine sg rfl (hk1) (o_sne rfl rfl) rfl ?_
                  refine sv (o_pickT (hk1) rfl rfl) rfl ?_
                  refine sv (o_mv rfl) rfl ?_
                  refine sg rfl (decide_eq_true hk2) (o_fa0 fd33_2 rfl) rfl ?_
                  refine sg rfl (decide_eq_true hk2) (o_ld sc9 rfl (Bg1.cell rfl)) rfl ?_
                  refine sgc rfl (decide_eq_true hk2) (o_call ent25 rfl) (c_short11 _ _) rfl fun v_ w26 h_ => ?_
                  obtain ⟨rfl, E_⟩ := h_
                  replace Bg1 := Bg1.mod0 E_
                  replace E := E.then E_
                  refine sv (o_pickT (decide_eq_true hk2) rfl rfl) rfl ?_
                  refine sv (o_mv rfl) rfl ?_
                  refine sg rfl (hk3) (o_fa0 fd33_4 rfl) rfl ?_
                  refine sg rfl (hk3) (o_ld sc9 rfl (Bg1.cell rfl)) rfl ?_
                  refine sgc rfl (hk3) (o_call ent25 rfl) (c_short11 _ _) rfl fun v_ w27 h_ => ?_
                  obtain ⟨rfl, E_⟩ := h_
                  replace Bg1 := Bg1.mod0 E_
                  replace E := E.then E_
                  refine sv (o_pickT (hk3) rfl rfl) rfl ?_
                  refine sv (o_mv rfl) rfl ?_
                  refine sg rfl (hk4) (o_fa0 fd33_3 rfl) rfl ?_
                  refine sg rfl (hk4) (o_ld sc4 rfl (Bg1.cell rfl)) rfl ?_
                  refine sg rfl (hk4) (o_mv rfl) rfl ?_
                  refine sn rfl (fun e_ => absurd ((hk5).symm.trans e_) (by decide)) rfl ?_
                  refine sn rfl (fun e_ => absurd ((hk5).symm.trans e_) (by decide)) rfl ?_
                  refine sn rfl (fun e_ => absurd ((hk5).symm.trans e_) (by decide)) rfl ?_
                  refine sg rfl (hk4) (o_pickT (hk5) rfl rfl) rfl ?_
                  refine sv (o_pickT (hk4) rfl rfl) rfl ?_
                  refine sv ((o_as rfl).to (v' := .bool e.fine1) (congrArg Value.bool (by rw [EV.fine1]; simp only [hk0, hk1, decide_eq_true hk2, hk3, hk4, hk5, Bool.true_and, Bool.and_true, Bool.false_and, Bool.and_false, Bool.true_or, Bool.or_true, Bool.false_or, Bool.or_false, Bool.not_true, Bool.not_false]))) rfl ?_
                  refine l_nil ?_
                  refine WE.sub (l' := [(1, _), (4, _), (5, _)]) ⟨rfl, rfl, rfl, trivial⟩ (e_K (J7  w27 ⟨Bg1, E⟩))
                · skip
                  by_cases hk6 : e.key = []
                  · skip
                    refine c_region ?_
                    refine sv (o_fa0 fd33_0 rfl) rfl ?_
                    refine sv (o_ld sc9 rfl (Bg1.cell rfl)) rfl ?_
                    refine sc (o_call ent23 rfl) (c_room _ e.room hsm.1 (hM.mod0 E)) rfl fun v_ w28 h_ => ?_
                    obtain ⟨rfl, E_⟩ := h_
                    replace Bg1 := Bg1.mod0 E_
                    replace E := E.then E_
                    refine sv (o_mv rfl) rfl ?_
                    refine sg rfl (hk0) (o_fa0 fd33_1 rfl) rfl ?_
                    refine sg rfl (hk0) (o_ld sc9 rfl (Bg1.cell rfl)) rfl ?_
                    refine sgc rfl (hk0) (o_call ent24 rfl) (c_user _ e.snd hsm.2.1 (hM.mod0 E)) rfl fun v_ w29 h_ => ?_
                    obtain ⟨rfl, E_⟩ := h_
                    replace Bg1 := Bg1.mod0 E_
                    replace E := E.then E_
                    refine sv (o_pickT (hk0) rfl rfl) rfl ?_
                    refine sv (o_mv rfl) rfl ?_
                    refine sg rfl (hk1) (o_fa0 fd33_2 rfl) rfl ?_
                    refine sg rfl (hk1) (o_ld sc9 rfl (Bg1.cell rfl)) rfl ?_
                    refine sg rfl (hk1) (o_sne rfl rfl) rfl ?_
                    refine sv (o_pickT (hk1) rfl rfl) rfl ?_
                    refine sv (o_mv rfl) rfl ?_
                    refine sg rfl (decide_eq_true hk2) (o_fa0 fd33_2 rfl) rfl ?_
                    refine sg rfl (decide_eq_true hk2) (o_ld sc9 rfl (Bg1.cell rfl)) rfl ?_
                    refine sgc rfl (decide_eq_true hk2) (o_call ent25 rfl) (c_short11 _ _) rfl fun v_ w30 h_ => ?_
                    obtain ⟨rfl, E_⟩ := h_
                    replace Bg1 := Bg1.mod0 E_
                    replace E := E.then E_
                    refine sv (o_pickT (decide_eq_true hk2) rfl rfl) rfl ?_
                    refine sv (o_mv rfl) rfl ?_
                    refine sg rfl (hk3) (o_fa0 fd33_4 rfl) rfl ?_
                    refine sg rfl (hk3) (o_ld sc9 rfl (Bg1.cell rfl)) rfl ?_
                    refine sgc rfl (hk3) (o_call ent25 rfl) (c_short11 _ _) rfl fun v_ w31 h_ => ?_
                    obtain ⟨rfl, E_⟩ := h_
                    replace Bg1 := Bg1.mod0 E_
                    replace E := E.then E_
                    refine sv (o_pickT (hk3) rfl rfl) rfl ?_
                    refine sv (o_mv rfl) rfl ?_
                    refine sg rfl (hk4) (o_fa0 fd33_3 rfl) rfl ?_
                    refine sg rfl (hk4) (o_ld sc4 rfl (Bg1.cell rfl)) rfl ?_
                    refine sg rfl (hk4) (o_mv rfl) rfl ?_
                    refine sg rfl (Bool.eq_false_iff.2 hk5) (o_fa0 fd33_4 rfl) rfl ?_
                    refine sg rfl (Bool.eq_false_iff.2 hk5) (o_ld sc9 rfl (Bg1.cell rfl)) rfl ?_
                    refine sg rfl (Bool.eq_false_iff.2 hk5) (o_seq rfl rfl) rfl ?_
                    refine sg rfl (hk4) (o_pickF (Bool.eq_false_iff.2 hk5) rfl rfl) rfl ?_
                    refine sv (o_pickT (hk4) rfl rfl) rfl ?_
                    refine sv ((o_as rfl).to (v' := .bool e.fine1) (congrArg Value.bool (by rw [EV.fine1]; simp only [hk0, hk1, decide_eq_true hk2, hk3, hk4, Bool.eq_false_iff.2 hk5, decide_eq_true hk6, Bool.true_and, Bool.and_true, Bool.false_and, Bool.and_false, Bool.true_or, Bool.or_true, Bool.false_or, Bool.or_false, Bool.not_true, Bool.not_false]))) rfl ?_
                    refine l_nil ?_
                    refine WE.sub (l' := [(1, _), (4, _), (5, _)]) ⟨rfl, rfl, rfl, trivial⟩ (e_K (J7  w31 ⟨Bg1, E⟩))
                  · skip
                    refine c_region ?_
                    refine sv (o_fa0 fd33_0 rfl) rfl ?_
                    refine sv (o_ld sc9 rfl (Bg1.cell rfl)) rfl ?_
                    refine sc (o_call ent23 rfl) (c_room _ e.room hsm.1 (hM.mod0 E)) rfl fun v_ w32 h_ => ?_
                    obtain ⟨rfl, E_⟩ := h_
                    replace Bg1 := Bg1.mod0 E_
                    replace E := E.then E_
                    refine sv (o_mv rfl) rfl ?_
                    refine sg rfl (hk0) (o_fa0 fd33_1 rfl) rfl ?_
                    refine sg rfl (hk0) (o_ld sc9 rfl (Bg1.cell rfl)) rfl ?_
                    refine sgc rfl (hk0) (o_call ent24 rfl) (c_user _ e.snd hsm.2.1 (hM.mod0 E)) rfl fun v_ w33 h_ => ?_
                    obtain ⟨rfl, E_⟩ := h_
                    replace Bg1 := Bg1.mod0 E_
                    replace E := E.then E_
                    refine sv (o_pickT (hk0) rfl rfl) rfl ?_
                    refine sv (o_mv rfl) rfl ?_
                    refine sg rfl (hk1) (o_fa0 fd33_2 rfl) rfl ?_
                    refine sg rfl (hk1) (o_ld sc9 rfl (Bg1.cell rfl)) rfl ?_
                    refine sg rfl (hk1) (o_sne rfl rfl) rfl ?_
                    refine sv (o_pickT (hk1) rfl rfl) rfl ?_
                    refine sv (o_mv rfl) rfl ?_
                    refine sg rfl (decide_eq_true hk2) (o_fa0 fd33_2 rfl) rfl ?_
                    refine sg rfl (decide_eq_true hk2) (o_ld sc9 rfl (Bg1.cell rfl)) rfl ?_
                    refine sgc rfl (decide_eq_true hk2) (o_call ent25 rfl) (c_short11 _ _) rfl fun v_ w34 h_ => ?_
                    obtain ⟨rfl, E_⟩ := h_
                    replace Bg1 := Bg1.mod0 E_
                    replace E := E.then E_
                    refine sv (o_pickT (decide_eq_true hk2) rfl rfl) rfl ?_
                    refine sv (o_mv rfl) rfl ?_
                    refine sg rfl (hk3) (o_fa0 fd33_4 rfl) rfl ?_
                    refine sg rfl (hk3) (o_ld sc9 rfl (Bg1.cell rfl)) rfl ?_
                    refine sgc rfl (hk3) (o_call ent25 rfl) (c_short11 _ _) rfl fun v_ w35 h_ => ?_
                    obtain ⟨rfl, E_⟩ := h_
                    replace Bg1 := Bg1.mod0 E_
                    replace E := E.then E_
                    refine sv (o_pickT (hk3) rfl rfl) rfl ?_
                    refine sv (o_mv rfl) rfl ?_
                    refine sg rfl (hk4) (o_fa0 fd33_3 rfl) rfl ?_
                    refine sg rfl (hk4) (o_ld sc4 rfl (Bg1.cell rfl)) rfl ?_
                    refine sg rfl (hk4) (o_mv rfl) rfl ?_
                    refine sg rfl (Bool.eq_false_iff.2 hk5) (o_fa0 fd33_4 rfl) rfl ?_
                    refine sg rfl (Bool.eq_false_iff.2 hk5) (o_ld sc9 rfl (Bg1.cell rfl)) rfl ?_
                    refine sg rfl (Bool.eq_false_iff.2 hk5) (o_seq rfl rfl) rfl ?_
                    refine sg rfl (hk4) (o_pickF (Bool.eq_false_iff.2 hk5) rfl rfl) rfl ?_
                    refine sv (o_pickT (hk4) rfl rfl) rfl ?_
                    refine sv ((o_as rfl).to (v' := .bool e.fine1) (congrArg Value.bool (by rw [EV.fine1]; simp only [hk0, hk1, decide_eq_true hk2, hk3, hk4, Bool.eq_false_iff.2 hk5, decide_eq_false hk6, Bool.true_and, Bool.and_true, Bool.false_and, Bool.and_false, Bool.true_or, Bool.or_true, Bool.false_or, Bool.or_false, Bool.not_true, Bool.not_false]))) rfl ?_
                    refine l_nil ?_
                    refine WE.sub (l' := [(1, _), (4, _), (5, _)]) ⟨rfl, rfl, rfl, trivial⟩ (e_K (J7  w35 ⟨Bg1, E⟩))
              · skip
                refine c_region ?_
                refine sv (o_fa0 fd33_0 rfl) rfl ?_
                refine sv (o_ld sc9 rfl (Bg1.cell rfl)) rfl ?_
                refine sc (o_call ent23 rfl) (c_room _ e.room hsm.1 (hM.mod0 E)) rfl fun v_ w36 h_ => ?_
                obtain ⟨rfl, E_⟩ := h_
                replace Bg1 := Bg1.mod0 E_
                replace E := E.then E_
                refine sv (o_mv rfl) rfl ?_
                refine sg rfl (hk0) (o_fa0 fd33_1 rfl) rfl ?_
                refine sg rfl (hk0) (o_ld sc9 rfl (Bg1.cell rfl)) rfl ?_
                refine sgc rfl (hk0) (o_call ent24 rfl) (c_user _ e.snd hsm.2.1 (hM.mod0 E)) rfl fun v_ w37 h_ => ?_
                obtain ⟨rfl, E_⟩ := h_
                replace Bg1 := Bg1.mod0 E_
                replace E := E.then E_
                refine sv (o_pickT (hk0) rfl rfl) rfl ?_
                refine sv (o_mv rfl) rfl ?_
                refine sg rfl (hk1) (o_fa0 fd33_2 rfl) rfl ?_
                refine sg rfl (hk1) (o_ld sc9 rfl (Bg1.cell rfl)) rfl ?_
                refine sg rfl (hk1) (o_sne rfl rfl) rfl ?_
                refine sv (o_pickT (hk1) rfl rfl) rfl ?_
                refine sv (o_mv rfl) rfl ?_
                refine sg rfl (decide_eq_true hk2) (o_fa0 fd33_2 rfl) rfl ?_
                refine sg rfl (decide_eq_true hk2) (o_ld sc9 rfl (Bg1.cell rfl)) rfl ?_
                refine sgc rfl (decide_eq_true hk2) (o_call ent25 rfl) (c_short11 _ _) rfl fun v_ w38 h_ => ?_
                obtain ⟨rfl, E_⟩ := h_
                replace Bg1 := Bg1.mod0 E_
                replace E := E.then E_
                refine sv (o_pickT (decide_eq_true hk2) rfl rfl) rfl ?_
                refine sv (o_mv rfl) rfl ?_
                refine sg rfl (hk3) (o_fa0 fd33_4 rfl) rfl ?_
                refine sg rfl (hk3) (o_ld sc9 rfl (Bg1.cell rfl)) rfl ?_
                refine sgc rfl (hk3) (o_call ent25 rfl) (c_short11 _ _) rfl fun v_ w39 h_ => ?_
                obtain ⟨rfl, E_⟩ := h_
                replace Bg1 := Bg1.mod0 E_
                replace E := E.then E_
                refine sv (o_pickT (hk3) rfl rfl) rfl ?_
                refine sv (o_mv rfl) rfl ?_
                refine sn rfl (fun e_ => absurd ((Bool.eq_false_iff.2 hk4).symm.trans e_) (by decide)) rfl ?_
                refine sn rfl (fun e_ => absurd ((Bool.eq_false_iff.2 hk4).symm.trans e_) (by decide)) rfl ?_
                refine sn rfl (fun e_ => absurd ((Bool.eq_false_iff.2 hk4).symm.trans e_) (by decide)) rfl ?_
                refine snu rfl rfl rfl ?_
                refine snu rfl rfl rfl ?_
                refine snu rfl rfl rfl ?_
                refine sn rfl (fun e_ => absurd ((Bool.eq_false_iff.2 hk4).symm.trans e_) (by decide)) rfl ?_
                refine sv (o_pickF (Bool.eq_false_iff.2 hk4) rfl rfl) rfl ?_
                refine sv ((o_as rfl).to (v' := .bool e.fine1) (congrArg Value.bool (by rw [EV.fine1]; simp only [hk0, hk1, decide_eq_true hk2, hk3, Bool.eq_false_iff.2 hk4, Bool.true_and, Bool.and_true, Bool.false_and, Bool.and_false, Bool.true_or, Bool.or_true, Bool.false_or, Bool.or_false, Bool.not_true, Bool.not_false]))) rfl ?_
                refine l_nil ?_
                refine WE.sub (l' := [(1, _), (4, _), (5, _)]) ⟨rfl, rfl, rfl, trivial⟩ (e_K (J7  w39 ⟨Bg1, E⟩))
            · skip
              refine c_region ?_
              refine sv (o_fa0 fd33_0 rfl) rfl ?_
              refine sv (o_ld sc9 rfl (Bg1.cell rfl)) rfl ?_
              refine sc (o_call ent23 rfl) (c_room _ e.room hsm.1 (hM.mod0 E)) rfl fun v_ w40 h_ => ?_
              obtain ⟨rfl, E_⟩ := h_
              replace Bg1 := Bg1.mod0 E_
              replace E := E.then E_
              refine sv (o_mv rfl) rfl ?_
              refine sg rfl (hk0) (o_fa0 fd33_1 rfl) rfl ?_
              refine sg rfl (hk0) (o_ld sc9 rfl (Bg1.cell rfl)) rfl ?_
              refine sgc rfl (hk0) (o_call ent24 rfl) (c_user _ e.snd hsm.2.1 (hM.mod0 E)) rfl fun v_ w41 h_ => ?_
              obtain ⟨rfl, E_⟩ := h_
              replace Bg1 := Bg1.mod0 E_
              replace E := E.then E_
              refine sv (o_pickT (hk0) rfl rfl) rfl ?_
              refine sv (o_mv rfl) rfl ?_
              refine sg rfl (hk1) (o_fa0 fd33_2 rfl) rfl ?_
              refine sg rfl (hk1) (o_ld sc9 rfl (Bg1.cell rfl)) rfl ?_
              refine sg rfl (hk1) (o_sne rfl rfl) rfl ?_
              refine sv (o_pickT (hk1) rfl rfl) rfl ?_
              refine sv (o_mv rfl) rfl ?_
              refine sg rfl (decide_eq_true hk2) (o_fa0 fd33_2 rfl) rfl ?_
              refine sg rfl (decide_eq_true hk2) (o_ld sc9 rfl (Bg1.cell rfl)) rfl ?_
              refine sgc rfl (decide_eq_true hk2) (o_call ent25 rfl) (c_short11 _ _) rfl fun v_ w42 h_ => ?_
              obtain ⟨rfl, E_⟩ := h_
              replace Bg1 := Bg1.mod0 E_
              replace E := E.then E_
              refine sv (o_pickT (decide_eq_true hk2) rfl rfl) rfl ?_
              refine sv (o_mv rfl) rfl ?_
              refine sn rfl (fun e_ => absurd ((Bool.eq_false_iff.2 hk3).symm.trans e_) (by decide)) rfl ?_
              refine sn rfl (fun e_ => absurd ((Bool.eq_false_iff.2 hk3).symm.trans e_) (by decide)) rfl ?_
              refine sn rfl (fun e_ => absurd ((Bool.eq_false_iff.2 hk3).symm.trans e_) (by decide)) rfl ?_
              refine sv (o_pickF (Bool.eq_false_iff.2 hk3) rfl rfl) rfl ?_
              refine sv (o_mv rfl) rfl ?_
              refine sn rfl (fun e_ => absurd ((rfl).symm.trans e_) (by decide)) rfl ?_
              refine sn rfl (fun e_ => absurd ((rfl).symm.trans e_) (by decide)) rfl ?_
              refine sn rfl (fun e_ => absurd ((rfl).symm.trans e_) (by decide)) rfl ?_
              refine snu rfl rfl rfl ?_
              refine snu rfl rfl rfl ?_
              refine snu rfl rfl rfl ?_
              refine sn rfl (fun e_ => absurd ((rfl).symm.trans e_) (by decide)) rfl ?_
              refine sv (o_pickF (rfl) rfl rfl) rfl ?_
              refine sv ((o_as rfl).to (v' := .bool e.fine1) (congrArg Value.bool (by rw [EV.fine1]; simp only [hk0, hk1, decide_eq_true hk2, Bool.eq_false_iff.2 hk3, Bool.true_and, Bool.and_true, Bool.false_and, Bool.and_false, Bool.true_or, Bool.or_true, Bool.false_or, Bool.or_false, Bool.not_true, Bool.not_false]))) rfl ?_
              refine l_nil ?_
              refine WE.sub (l' := [(1, _), (4, _), (5, _)]) ⟨rfl, rfl, rfl, trivial⟩ (e_K (J7  w42 ⟨Bg1, E⟩))
          · skip
            refine c_region ?_
            refine sv (o_fa0 fd33_0 rfl) rfl ?_
            refine sv (o_ld sc9 rfl (Bg1.cell rfl)) rfl ?_
            refine sc (o_call ent23 rfl) (c_room _ e.room hsm.1 (hM.mod0 E)) rfl fun v_ w43 h_ => ?_
            obtain ⟨rfl, E_⟩ := h_
            replace Bg1 := Bg1.mod0 E_
            replace E := E.then E_
            refine sv (o_mv rfl) rfl ?_
            refine sg rfl (hk0) (o_fa0 fd33_1 rfl) rfl ?_
            refine sg rfl (hk0) (o_ld sc9 rfl (Bg1.cell rfl)) rfl ?_
            refine sgc rfl (hk0) (o_call ent24 rfl) (c_user _ e.snd hsm.2.1 (hM.mod0 E)) rfl fun v_ w44 h_ => ?_
            obtain ⟨rfl, E_⟩ := h_
            replace Bg1 := Bg1.mod0 E_
            replace E := E.then E_
            refine sv (o_pickT (hk0) rfl rfl) rfl ?_
            refine sv (o_mv rfl) rfl ?_
            refine sg rfl (hk1) (o_fa0 fd33_2 rfl) rfl ?_
            refine sg rfl (hk1) (o_ld sc9 rfl (Bg1.cell rfl)) rfl ?_
            refine sg rfl (hk1) (o_sne rfl rfl) rfl ?_
            refine sv (o_pickT (hk1) rfl rfl) rfl ?_
            refine sv (o_mv rfl) rfl ?_
            refine sn rfl (fun e_ => absurd ((decide_eq_false hk2).symm.trans e_) (by decide)) rfl ?_
            refine sn rfl (fun e_ => absurd ((decide_eq_false hk2).symm.trans e_) (by decide)) rfl ?_
            refine sn rfl (fun e_ => absurd ((decide_eq_false hk2).symm.trans e_) (by decide)) rfl ?_
            refine sv (o_pickF (decide_eq_false hk2) rfl rfl) rfl ?_
            refine sv (o_mv rfl) rfl ?_
            refine sn rfl (fun e_ => absurd ((rfl).symm.trans e_) (by decide)) rfl ?_
            refine sn rfl (fun e_ => absurd ((rfl).symm.trans e_) (by decide)) rfl ?_
            refine sn rfl (fun e_ => absurd ((rfl).symm.trans e_) (by decide)) rfl ?_
            refine sv (o_pickF (rfl) rfl rfl) rfl ?_
            refine sv (o_mv rfl) rfl ?_
            refine sn rfl (fun e_ => absurd ((rfl).symm.trans e_) (by decide)) rfl ?_
            refine sn rfl (fun e_ => absurd ((rfl).symm.trans e_) (by decide)) rfl ?_
            refine sn rfl (fun e_ => absurd ((rfl).symm.trans e_) (by decide)) rfl ?_
            refine snu rfl rfl rfl ?_
            refine snu rfl rfl rfl ?_
            refine snu rfl rfl rfl ?_
            refine sn rfl (fun e_ => absurd ((rfl).symm.trans e_) (by decide)) rfl ?_
            refine sv (o_pickF (rfl) rfl rfl) rfl ?_
            refine sv ((o_as rfl).to (v' := .bool e.fine1) (congrArg Value.bool (by rw [EV.fine1]; simp only [hk0, hk1, decide_eq_false hk2, Bool.true_and, Bool.and_true, Bool.false_and, Bool.and_false, Bool.true_or, Bool.or_true, Bool.false_or, Bool.or_false, Bool.not_true, Bool.not_false]))) rfl ?_
            refine l_nil ?_
            refine WE.sub (l' := [(1, _), (4, _), (5, _)]) ⟨rfl, rfl, rfl, trivial⟩ (e_K (J7  w44 ⟨Bg1, E⟩))
        · skip
          refine c_region ?_
          refine sv (o_fa0 fd33_0 rfl) rfl ?_
          refine sv (o_ld sc9 rfl (Bg1.cell rfl)) rfl ?_
          refine sc (o_call ent23 rfl) (c_room _ e.room hsm.1 (hM.mod0 E)) rfl fun v_ w45 h_ => ?_
          obtain ⟨rfl, E_⟩ := h_
          replace Bg1 := Bg1.mod0 E_
          replace E := E.then E_
          refine sv (o_mv rfl) rfl ?_
          refine sg rfl (hk0) (o_fa0 fd33_1 rfl) rfl ?_
          refine sg rfl (hk0) (o_ld sc9 rfl (Bg1.cell rfl)) rfl ?_
          refine sgc rfl (hk0) (o_call ent24 rfl) (c_user _ e.snd hsm.2.1 (hM.mod0 E)) rfl fun v_ w46 h_ => ?_
          obtain ⟨rfl, E_⟩ := h_
          replace Bg1 := Bg1.mod0 E_
          replace E := E.then E_
          refine sv (o_pickT (hk0) rfl rfl) rfl ?_
          refine sv (o_mv rfl) rfl ?_
          refine sn rfl (fun e_ => absurd ((Bool.eq_false_iff.2 hk1).symm.trans e_) (by decide)) rfl ?_
          refine sn rfl (fun e_ => absurd ((Bool.eq_false_iff.2 hk1).symm.trans e_) (by decide)) rfl ?_
          refine sn rfl (fun e_ => absurd ((Bool.eq_false_iff.2 hk1).symm.trans e_) (by decide)) rfl ?_
          refine sv (o_pickF (Bool.eq_false_iff.2 hk1) rfl rfl) rfl ?_
          refine sv (o_mv rfl) rfl ?_
          refine sn rfl (fun e_ => absurd ((rfl).symm.trans e_) (by decide)) rfl ?_
          refine sn rfl (fun e_ => absurd ((rfl).symm.trans e_) (by decide)) rfl ?_
          refine sn rfl (fun e_ => absurd ((rfl).symm.trans e_) (by decide)) rfl ?_
          refine sv (o_pickF (rfl) rfl rfl) rfl ?_
          refine sv (o_mv rfl) rfl ?_
          refine sn rfl (fun e_ => absurd ((rfl).symm.trans e_) (by decide)) rfl ?_
          refine sn rfl (fun e_ => absurd ((rfl).symm.trans e_) (by decide)) rfl ?_
          refine sn rfl (fun e_ => absurd ((rfl).symm.trans e_) (by decide)) rfl ?_
          refine sv (o_pickF (rfl) rfl rfl) rfl ?_
          refine sv (o_mv rfl) rfl ?_
          refine sn rfl (fun e_ => absurd ((rfl).symm.trans e_) (by decide)) rfl ?_
          refine sn rfl (fun e_ => absurd ((rfl).symm.trans e_) (by decide)) rfl ?_
          refine sn rfl (fun e_ => absurd ((rfl).symm.trans e_) (by decide)) rfl ?_
          refine snu rfl rfl rfl ?_
          refine snu rfl rfl rfl ?_
          refine snu rfl rfl rfl ?_
          refine sn rfl (fun e_ => absurd ((rfl).symm.trans e_) (by decide)) rfl ?_
          refine sv (o_pickF (rfl) rfl rfl) rfl ?_
          refine sv ((o_as rfl).to (v' := .bool e.fine1) (congrArg Value.bool (by rw [EV.fine1]; simp only [hk0, Bool.eq_false_iff.2 hk1, Bool.true_and, Bool.and_true, Bool.false_and, Bool.and_false, Bool.true_or, Bool.or_true, Bool.false_or, Bool.or_false, Bool.not_true, Bool.not_false]))) rfl ?_
          refine l_nil ?_
          refine WE.sub (l' := [(1, _), (4, _), (5, _)]) ⟨rfl, rfl, rfl, trivial⟩ (e_K (J7  w46 ⟨Bg1, E⟩))
      · skip
        refine c_region ?_
        refine sv (o_fa0 fd33_0 rfl) rfl ?_
        refine sv (o_ld sc9 rfl (Bg1.cell rfl)) rfl ?_
        refine sc (o_call ent23 rfl) (c_room _ e.room hsm.1 (hM.mod0 E)) rfl fun v_ w47 h_ => ?_
        obtain ⟨rfl, E_⟩ := h_
        replace Bg1 := Bg1.mod0 E_
        replace E := E.then E_
        refine sv (o_mv rfl) rfl ?_
        refine sn rfl (fun e_ => absurd ((Bool.eq_false_iff.2 hk0).symm.trans e_) (by decide)) rfl ?_
        refine sn rfl (fun e_ => absurd ((Bool.eq_false_iff.2 hk0).symm.trans e_) (by decide)) rfl ?_
        refine sn rfl (fun e_ => absurd ((Bool.eq_false_iff.2 hk0).symm.trans e_) (by decide)) rfl ?_
        refine sv (o_pickF (Bool.eq_false_iff.2 hk0) rfl rfl) rfl ?_
        refine sv (o_mv rfl) rfl ?_
        refine sn rfl (fun e_ => absurd ((rfl).symm.trans e_) (by decide)) rfl ?_
        refine sn rfl (fun e_ => absurd ((rfl).symm.trans e_) (by decide)) rfl ?_
        refine sn rfl (fun e_ => absurd ((rfl).symm.trans e_) (by decide)) rfl ?_
        refine sv (o_pickF (rfl) rfl rfl) rfl ?_
        refine sv (o_mv rfl) rfl ?_
        refine sn rfl (fun e_ => absurd ((rfl).symm.trans e_) (by decide)) rfl ?_
        refine sn rfl (fun e_ => absurd ((rfl).symm.trans e_) (by decide)) rfl ?_
        refine sn rfl (fun e_ => absurd ((rfl).symm.trans e_) (by decide)) rfl ?_
        refine sv (o_pickF (rfl) rfl rfl) rfl ?_
        refine sv (o_mv rfl) rfl ?_
        refine sn rfl (fun e_ => absurd ((rfl).symm.trans e_) (by decide)) rfl ?_
        refine sn rfl (fun e_ => absurd ((rfl).symm.trans e_) (by decide)) rfl ?_
        refine sn rfl (fun e_ => absurd ((rfl).symm.trans e_) (by decide)) rfl ?_
        refine sv (o_pickF (rfl) rfl rfl) rfl ?_
        refine sv (o_mv rfl) rfl ?_
        refine sn rfl (fun e_ => absurd ((rfl).symm.trans e_) (by decide)) rfl ?_
        refine sn rfl (fun e_ => absurd ((rfl).symm.trans e_) (by decide)) rfl ?_
        refine sn rfl (fun e_ => absurd ((rfl).symm.trans e_) (by decide)) rfl ?_
        refine snu rfl rfl rfl ?_
        refine snu rfl rfl rfl ?_
        refine snu rfl rfl rfl ?_
        refine sn rfl (fun e_ => absurd ((rfl).symm.trans e_) (by decide)) rfl ?_
        refine sv (o_pickF (rfl) rfl rfl) rfl ?_
        refine sv ((o_as rfl).to (v' := .bool e.fine1) (congrArg Value.bool (by rw [EV.fine1]; simp only [Bool.eq_false_iff.2 hk0, Bool.true_and, Bool.and_true, Bool.false_and, Bool.and_false, Bool.true_or, Bool.or_true, Bool.false_or, Bool.or_false, Bool.not_true, Bool.not_false]))) rfl ?_
        refine l_nil ?_
        refine WE.sub (l' := [(1, _), (4, _), (5, _)]) ⟨rfl, rfl, rfl, trivial⟩ (e_K (J7  w47 ⟨Bg1, E⟩))

theorem c_checkR (w : World) (e : EV) (us : List Value) (R : Reps [] w e.D us) (ho : e.ok) (hT : Tab w) : Calls Tryd.prog 12 [.agg us.toArray].toArray w (Ret fun u w' => u = .int .i64 e.chk ∧ Mod [] w w') := by
  refine enter Tryd.func12 rfl rfl rfl (l := [(0, _)]) ⟨rfl, trivial⟩ ?_
  have E := Mod.refl [] w
  obtain ⟨al, cl, am, cm, ap, cp, aa, ca, aS, cS, rfl, Rc, Rp, Ra, Rs⟩ := EV.cells17 R
  obtain ⟨ho1, ho2, ho3, ho4, ho5, ho6, ho7, ho8, ho9, ho10, ho11, ho12⟩ := ho
  have nd1 : decide (e.dep ≤ 9007199254740991) = decide (e.dep < 9007199254740992) := by rw [decide_eq_decide]; omega
  have nd2 : decide (e.time ≤ 9007199254740991) = decide (e.time < 9007199254740992) := by rw [decide_eq_decide]; omega
  obtain ⟨_, c9, hfl, hcc1, hcc2⟩ := flat_len Rs
  injection hfl with _ _ hfc
  subst hfc
  obtain ⟨_, c9p, hflp, hcp1, hcp2⟩ := flat_len Rp
  injection hflp with _ _ hfcp
  subst hfcp
  obtain ⟨_, c9a, hfla, hca1, hca2⟩ := flat_len Ra
  injection hfla with _ _ hfca
  subst hfca
  refine c_seq fun K1 hK1 => ?_
  refine c_region ?_
  refine s_box rfl rfl rfl fun g1 w1 N1 => ?_
  have Lg1_E := N1.le E
  replace E := E.then N1.mod
  have Bg1 := N1.blk
  refine sv (o_as rfl) rfl ?_
  refine l_nil ?_
  refine e_K (hK1 _ _ _ _ ?_)
  refine c_seq fun K2 hK2 => ?_
  refine c_seq fun K3 hK3 => ?_
  by_cases hk0 : (e.prev.length : Int) > 20
  · skip
    refine c_region ?_
    refine sv (o_fa0 fd33_6 rfl) rfl ?_
    refine sv (o_ld sc30 rfl (Bg1.cell rfl)) rfl ?_
    refine sv (o_len Tryd.underlying30 rfl) rfl ?_
    refine sv (o_gtr rfl rfl) rfl ?_
    refine sv (o_mv rfl) rfl ?_
    refine sn rfl (fun e_ => absurd ((decide_eq_true hk0).symm.trans e_) (by decide)) rfl ?_
    refine sn rfl (fun e_ => absurd ((decide_eq_true hk0).symm.trans e_) (by decide)) rfl ?_
    refine sn rfl (fun e_ => absurd ((decide_eq_true hk0).symm.trans e_) (by decide)) rfl ?_
    refine sn rfl (fun e_ => absurd ((decide_eq_true hk0).symm.trans e_) (by decide)) rfl ?_
    refine sv (o_pickT (decide_eq_true hk0) rfl rfl) rfl ?_
    refine l_nil ?_
    refine e_K (hK3 _ _ _ _ ?_)
    refine c_true rfl ?_
    have hmany : 20 < e.prev.length ∨ 10 < e.auth.length := by omega
    refine c_seq fun K4 hK4 => ?_
    refine c_region ?_
    refine sv (o_as rfl) rfl ?_
    refine l_nil ?_
    refine e_K (hK4 _ _ _ _ ?_)
    refine c_ret ?_
    refine e_then (by simp) ?_
    exact ret1 rfl rfl ⟨by rw [EV.chk_many hmany], E⟩
  · skip
    by_cases hk1 : (e.auth.length : Int) > 10
    · skip
      refine c_region ?_
      refine sv (o_fa0 fd33_6 rfl) rfl ?_
      refine sv (o_ld sc30 rfl (Bg1.cell rfl)) rfl ?_
      refine sv (o_len Tryd.underlying30 rfl) rfl ?_
      refine sv (o_gtr rfl rfl) rfl ?_
      refine sv (o_mv rfl) rfl ?_
      refine sg rfl (decide_eq_false hk0) (o_fa0 fd33_7 rfl) rfl ?_
      refine sg rfl (decide_eq_false hk0) (o_ld sc30 rfl (Bg1.cell rfl)) rfl ?_
      refine sg rfl (decide_eq_false hk0) (o_len Tryd.underlying30 rfl) rfl ?_
      refine sg rfl (decide_eq_false hk0) (o_gtr rfl rfl) rfl ?_
      refine sv (o_pickF (decide_eq_false hk0) rfl rfl) rfl ?_
      refine l_nil ?_
      refine e_K (hK3 _ _ _ _ ?_)
      refine c_if rfl (fun h23 => ?_) (fun h23 => absurd hk1 h23)
      have hmany : 20 < e.prev.length ∨ 10 < e.auth.length := by omega
      refine c_seq fun K5 hK5 => ?_
      refine c_region ?_
      refine sv (o_as rfl) rfl ?_
      refine l_nil ?_
      refine e_K (hK5 _ _ _ _ ?_)
      refine c_ret ?_
      refine e_then (by simp) ?_
      exact ret1 rfl rfl ⟨by rw [EV.chk_many hmany], E⟩
    · skip
      refine c_region ?_
      refine sv (o_fa0 fd33_6 rfl) rfl ?_
      refine sv (o_ld sc30 rfl (Bg1.cell rfl)) rfl ?_
      refine sv (o_len Tryd.underlying30 rfl) rfl ?_
      refine sv (o_gtr rfl rfl) rfl ?_
      refine sv (o_mv rfl) rfl ?_
      refine sg rfl (decide_eq_false hk0) (o_fa0 fd33_7 rfl) rfl ?_
      refine sg rfl (decide_eq_false hk0) (o_ld sc30 rfl (Bg1.cell rfl)) rfl ?_
      refine sg rfl (decide_eq_false hk0) (o_len Tryd.underlying30 rfl) rfl ?_
      refine sg rfl (decide_eq_false hk0) (o_gtr rfl rfl) rfl ?_
      refine sv (o_pickF (decide_eq_false hk0) rfl rfl) rfl ?_
      refine l_nil ?_
      refine e_K (hK3 _ _ _ _ ?_)
      refine c_if rfl (fun h23 => absurd h23 hk1) (fun h23 => ?_)
      have hfew : ¬ (20 < e.prev.length ∨ 10 < e.auth.length) := by omega
      refine c_skip ?_
      refine e_K (hK2 _ _ _ _ ?_)
      refine c_seq fun K6 hK6 => ?_
      refine c_seq fun K7 hK7 => ?_
      refine c_region ?_
      refine sv (o_fa0 fd33_6 rfl) rfl ?_
      refine sv (o_ld sc30 rfl (Bg1.cell rfl)) rfl ?_
      refine sv (o_len Tryd.underlying30 rfl) rfl ?_
      refine sv (o_mv rfl) rfl ?_
      refine l_nil ?_
      refine e_K (hK7 _ _ _ _ ?_)
      refine c_block ?_
      refine c_loop (σ := Nat) (fun k => [(1, .pointer (some ⟨g1, 0, none⟩)), (25, .slice ap e.prev.length cp), (26, .int .i64 (e.prev.length : Int)), (27, .int .i64 (k : Int))]) (fun k w1 => k ≤ e.prev.length ∧ (e.prev.take k).all eventB = true ∧ Blk w1 g1 33 [S e.room, S e.snd, S e.ty, .bool e.st, S e.key, .int .i64 e.con.kind, .bool e.con.is, .int .i64 e.con.num, S e.con.str, .slice al e.con.list.length cl, .slice am e.con.map.length cm, .slice ap e.prev.length cp, .slice aa e.auth.length ca, .int .i64 e.dep, .int .i64 e.time, S e.hash, .slice aS e.sigs.length cS] ∧ Mod [] w w1) (fun k => e.prev.length - k) (0) ⟨rfl, rfl, rfl, rfl, trivial⟩ (⟨by omega, by simp, Bg1, E⟩) ?_
      rintro k w2 ⟨hk, ha, Bg1, E⟩
      refine c_seq fun K8 hK8 => ?_
      refine c_region ?_
      refine sv (o_lss rfl rfl) rfl ?_
      refine l_nil ?_
      refine e_K (hK8 _ _ _ _ ?_)
      refine c_seq fun K9 hK9 => ?_
      refine c_if rfl (fun h28 => ?_) (fun h28 => ?_)
      · skip
        obtain ⟨y, hy⟩ : ∃ y, e.prev[k]? = some y := ⟨_, List.getElem?_eq_getElem (by omega)⟩
        obtain ⟨a_y, ha_y, hcs_y, _⟩ := flat_at (Rp.to0 E) hy
        cases ha_y
        have hyl : y.length ≤ 140737488351232 := ho6 y (List.mem_of_getElem? hy)
        refine c_skip ?_
        refine e_K (hK9 _ _ _ _ ?_)
        refine c_seq fun K10 hK10 => ?_
        refine c_block ?_
        refine c_seq fun K11 hK11 => ?_
        refine c_region ?_
        refine sv (o_ix sl30 rfl rfl (by omega)) rfl ?_
        refine sv (o_ld sc9 rfl hcs_y.first) rfl ?_
        refine sv (o_as rfl) rfl ?_
        refine l_nil ?_
        refine e_K (hK11 _ _ _ _ ?_)
        refine c_seq fun K12 hK12 => ?_
        refine c_region ?_
        refine sv (o_mv rfl) rfl ?_
        refine sc (o_call ent31 rfl) (c_eventR _ y hyl) rfl fun v_ w3 h_ => ?_
        obtain ⟨rfl, E_⟩ := h_
        replace Bg1 := Bg1.mod0 E_
        replace E := E.then E_
        refine sv (o_not rfl) rfl ?_
        refine l_nil ?_
        refine e_K (hK12 _ _ _ _ ?_)
        refine c_cond rfl (fun h33 => ?_) (fun h33 => ?_)
        · skip
          have hF : e.fine = false := EV.fine_prev (all_bad _ hy (by simpa using h33))
          refine c_seq fun K13 hK13 => ?_
          refine c_region ?_
          refine sv (o_as rfl) rfl ?_
          refine l_nil ?_
          refine e_K (hK13 _ _ _ _ ?_)
          refine c_ret ?_
          refine e_in (by simp) ?_
          refine e_then (by simp) ?_
          refine e_then (by simp) ?_
          refine e_in (by simp) ?_
          refine e_then (by simp) ?_
          exact ret1 rfl rfl ⟨by rw [EV.chk_no hfew hF], E⟩
        · skip
          have hyv : eventB y = true := by simpa using h33
          refine c_skip ?_
          refine e_in (by simp) ?_
          refine e_K (hK10 _ _ _ _ ?_)
          refine c_region ?_
          refine sv (o_addN rfl rfl (by omega)) rfl ?_
          refine sv (o_mv rfl) rfl ?_
          refine l_nil ?_
          exact e_round (σ := Nat) (s := k) (k + 1) ⟨rfl, rfl, rfl, rfl, trivial⟩ ⟨by omega, by rw [all_succ2 _ hy, ha, hyv]; rfl, Bg1, E⟩ (by omega)
      · skip
        have hpv9 : e.prev.all eventB = true := by rw [List.take_of_length_le (by omega)] at ha; exact ha
        refine c_exit ?_
        refine e_then (by simp) ?_
        refine e_then (by simp) ?_
        refine e_hit ?_
        refine e_K (hK6 _ _ _ _ ?_)
        refine c_seq fun K14 hK14 => ?_
        refine c_seq fun K15 hK15 => ?_
        refine c_region ?_
        refine sv (o_fa0 fd33_7 rfl) rfl ?_
        refine sv (o_ld sc30 rfl (Bg1.cell rfl)) rfl ?_
        refine sv (o_len Tryd.underlying30 rfl) rfl ?_
        refine sv (o_mv rfl) rfl ?_
        refine l_nil ?_
        refine e_K (hK15 _ _ _ _ ?_)
        refine c_block ?_
        refine c_loop (σ := Nat) (fun k => [(1, .pointer (some ⟨g1, 0, none⟩)), (36, .slice aa e.auth.length ca), (37, .int .i64 (e.auth.length : Int)), (38, .int .i64 (k : Int))]) (fun k w1 => k ≤ e.auth.length ∧ (e.auth.take k).all eventB = true ∧ Blk w1 g1 33 [S e.room, S e.snd, S e.ty, .bool e.st, S e.key, .int .i64 e.con.kind, .bool e.con.is, .int .i64 e.con.num, S e.con.str, .slice al e.con.list.length cl, .slice am e.con.map.length cm, .slice ap e.prev.length cp, .slice aa e.auth.length ca, .int .i64 e.dep, .int .i64 e.time, S e.hash, .slice aS e.sigs.length cS] ∧ Mod [] w w1) (fun k => e.auth.length - k) (0) ⟨rfl, rfl, rfl, rfl, trivial⟩ (⟨by omega, by simp, Bg1, E⟩) ?_
        rintro k w4 ⟨hk, ha, Bg1, E⟩
        refine c_seq fun K16 hK16 => ?_
        refine c_region ?_
        refine sv (o_lss rfl rfl) rfl ?_
        refine l_nil ?_
        refine e_K (hK16 _ _ _ _ ?_)
        refine c_seq fun K17 hK17 => ?_
        refine c_if rfl (fun h39 => ?_) (fun h39 => ?_)
        · skip
          obtain ⟨y, hy⟩ : ∃ y, e.auth[k]? = some y := ⟨_, List.getElem?_eq_getElem (by omega)⟩
          obtain ⟨a_y, ha_y, hcs_y, _⟩ := flat_at (Ra.to0 E) hy
          cases ha_y
          have hyl : y.length ≤ 140737488351232 := ho8 y (List.mem_of_getElem? hy)
          refine c_skip ?_
          refine e_K (hK17 _ _ _ _ ?_)
          refine c_seq fun K18 hK18 => ?_
          refine c_block ?_
          refine c_seq fun K19 hK19 => ?_
          refine c_region ?_
          refine sv (o_ix sl30 rfl rfl (by omega)) rfl ?_
          refine sv (o_ld sc9 rfl hcs_y.first) rfl ?_
          refine sv (o_as rfl) rfl ?_
          refine l_nil ?_
          refine e_K (hK19 _ _ _ _ ?_)
          refine c_seq fun K20 hK20 => ?_
          refine c_region ?_
          refine sv (o_mv rfl) rfl ?_
          refine sc (o_call ent31 rfl) (c_eventR _ y hyl) rfl fun v_ w5 h_ => ?_
          obtain ⟨rfl, E_⟩ := h_
          replace Bg1 := Bg1.mod0 E_
          replace E := E.then E_
          refine sv (o_not rfl) rfl ?_
          refine l_nil ?_
          refine e_K (hK20 _ _ _ _ ?_)
          refine c_cond rfl (fun h44 => ?_) (fun h44 => ?_)
          · skip
            have hF : e.fine = false := EV.fine_auth (all_bad _ hy (by simpa using h44))
            refine c_seq fun K21 hK21 => ?_
            refine c_region ?_
            refine sv (o_as rfl) rfl ?_
            refine l_nil ?_
            refine e_K (hK21 _ _ _ _ ?_)
            refine c_ret ?_
            refine e_in (by simp) ?_
            refine e_then (by simp) ?_
            refine e_then (by simp) ?_
            refine e_in (by simp) ?_
            refine e_then (by simp) ?_
            exact ret1 rfl rfl ⟨by rw [EV.chk_no hfew hF], E⟩
          · skip
            have hyv : eventB y = true := by simpa using h44
            refine c_skip ?_
            refine e_in (by simp) ?_
            refine e_K (hK18 _ _ _ _ ?_)
            refine c_region ?_
            refine sv (o_addN rfl rfl (by omega)) rfl ?_
            refine sv (o_mv rfl) rfl ?_
            refine l_nil ?_
            exact e_round (σ := Nat) (s := k) (k + 1) ⟨rfl, rfl, rfl, rfl, trivial⟩ ⟨by omega, by rw [all_succ2 _ hy, ha, hyv]; rfl, Bg1, E⟩ (by omega)
        · skip
          have hau9 : e.auth.all eventB = true := by rw [List.take_of_length_le (by omega)] at ha; exact ha
          refine c_exit ?_
          refine e_then (by simp) ?_
          refine e_then (by simp) ?_
          refine e_hit ?_
          refine e_K (hK14 _ _ _ _ ?_)
          refine c_seq fun K22 hK22 => ?_
          refine c_seq fun K23 hK23 => ?_
          refine c_region ?_
          refine sv (o_fa0 fd33_11 rfl) rfl ?_
          refine sv (o_ld sc31 rfl (Bg1.cell rfl)) rfl ?_
          refine sv (o_len Tryd.underlying31 rfl) rfl ?_
          refine sv (o_mv rfl) rfl ?_
          refine l_nil ?_
          refine e_K (hK23 _ _ _ _ ?_)
          refine c_block ?_
          refine c_loop (σ := Nat) (fun k => [(1, .pointer (some ⟨g1, 0, none⟩)), (47, .slice aS e.sigs.length cS), (48, .int .i64 (e.sigs.length : Int)), (49, .int .i64 (k : Int))]) (fun k w1 => k ≤ e.sigs.length ∧ sigsL none e.sigs = sigsL (prevS e.sigs k) (e.sigs.drop k) ∧ Blk w1 g1 33 [S e.room, S e.snd, S e.ty, .bool e.st, S e.key, .int .i64 e.con.kind, .bool e.con.is, .int .i64 e.con.num, S e.con.str, .slice al e.con.list.length cl, .slice am e.con.map.length cm, .slice ap e.prev.length cp, .slice aa e.auth.length ca, .int .i64 e.dep, .int .i64 e.time, S e.hash, .slice aS e.sigs.length cS] ∧ Mod [] w w1) (fun k => e.sigs.length - k) (0) ⟨rfl, rfl, rfl, rfl, trivial⟩ (⟨by omega, rfl, Bg1, E⟩) ?_
          rintro k w6 ⟨hk, hinv, Bg1, E⟩
          refine c_seq fun K24 hK24 => ?_
          refine c_region ?_
          refine sv (o_lss rfl rfl) rfl ?_
          refine l_nil ?_
          refine e_K (hK24 _ _ _ _ ?_)
          refine c_seq fun K25 hK25 => ?_
          refine c_if rfl (fun h50 => ?_) (fun h50 => ?_)
          · skip
            refine c_skip ?_
            refine e_K (hK25 _ _ _ _ ?_)
            refine c_seq fun K26 hK26 => ?_
            refine c_block ?_
            refine c_seq fun K27 hK27 => ?_
            refine c_region ?_
            refine sv (o_mv rfl) rfl ?_
            obtain ⟨x, hx_x⟩ : ∃ x, e.sigs[k]? = some x := ⟨_, List.getElem?_eq_getElem (by omega)⟩
            obtain ⟨a_x, ha_x, hcs_x, _⟩ := flat_at (Rs.to0 E) hx_x
            cases ha_x
            obtain ⟨hl1_x, hl2_x, hl3_x⟩ := ho11 x (List.mem_of_getElem? hx_x)
            refine sv (o_ix sl31 rfl rfl (by omega)) rfl ?_
            refine sv (o_lda ag58 rfl rfl hcs_x) rfl ?_
            refine s_alloc zv58 rfl fun g2 w7 N2 => ?_
            have Lg2_E := N2.le E
            have Dg1_g2 := N2.ne Bg1
            replace Bg1 := Bg1.mod0 N2.mod
            replace E := E.then N2.mod
            have Bg2 := N2.blk
            refine sv (o_as rfl) rfl ?_
            refine s_sta (vs := [_, _, _]) ag58 Bg2 rfl rfl rfl (by simp [Value.oneCell']) (by simp) fun w8 P8 => ?_
            replace Bg1 := Bg1.ne P8.mod (Ne.symm (Ne.symm Dg1_g2))
            replace E := E.own P8.mod Lg2_E
            replace Bg2 : Blk w8 g2 _ [_, _, _] := P8.blk
            refine l_nil ?_
            refine e_K (hK27 _ _ _ _ ?_)
            refine c_seq fun K28 hK28 => ?_
            refine c_seq fun K29 hK29 => ?_
            by_cases hk0 : (!serverB x.srv) = true
            · skip
              refine c_region ?_
              refine sv (o_fa0 fd58_0 rfl) rfl ?_
              refine sv (o_ld sc9 rfl (Bg2.cell rfl)) rfl ?_
              refine sc (o_call ent32 rfl) (c_serverR _ x.srv hl1_x) rfl fun v_ w9 h_ => ?_
              obtain ⟨rfl, E_⟩ := h_
              replace Bg1 := Bg1.mod0 E_
              replace Bg2 := Bg2.mod0 E_
              replace E := E.then E_
              refine sv (o_not rfl) rfl ?_
              refine sv (o_mv rfl) rfl ?_
              refine sn rfl (fun e_ => absurd ((hk0).symm.trans e_) (by decide)) rfl ?_
              refine sn rfl (fun e_ => absurd ((hk0).symm.trans e_) (by decide)) rfl ?_
              refine sn rfl (fun e_ => absurd ((hk0).symm.trans e_) (by decide)) rfl ?_
              refine sn rfl (fun e_ => absurd ((hk0).symm.trans e_) (by decide)) rfl ?_
              refine sv (o_pickT (hk0) rfl rfl) rfl ?_
              refine sv (o_mv rfl) rfl ?_
              refine sn rfl (fun e_ => absurd ((rfl).symm.trans e_) (by decide)) rfl ?_
              refine sn rfl (fun e_ => absurd ((rfl).symm.trans e_) (by decide)) rfl ?_
              refine sn rfl (fun e_ => absurd ((rfl).symm.trans e_) (by decide)) rfl ?_
              refine sn rfl (fun e_ => absurd ((rfl).symm.trans e_) (by decide)) rfl ?_
              refine sv (o_pickT (rfl) rfl rfl) rfl ?_
              refine l_nil ?_
              refine e_K (hK29 _ _ _ _ ?_)
              refine c_true rfl ?_
              have h_ : serverB x.srv = false := by simpa using hk0
              have hF : e.fine = false := EV.fine_sigs (by rw [hinv, sigsL_at hx_x, show sigB x = false by simp [sigB, h_]]; rfl)
              refine c_seq fun K30 hK30 => ?_
              refine c_region ?_
              refine sv (o_as rfl) rfl ?_
              refine l_nil ?_
              refine e_K (hK30 _ _ _ _ ?_)
              refine c_ret ?_
              refine e_then (by simp) ?_
              refine e_in (by simp) ?_
              refine e_then (by simp) ?_
              refine e_then (by simp) ?_
              refine e_in (by simp) ?_
              refine e_then (by simp) ?_
              exact ret1 rfl rfl ⟨by rw [EV.chk_no hfew hF], E⟩
            · skip
              by_cases hk1 : (!keyB x.key) = true
              · skip
                refine c_region ?_
                refine sv (o_fa0 fd58_0 rfl) rfl ?_
                refine sv (o_ld sc9 rfl (Bg2.cell rfl)) rfl ?_
                refine sc (o_call ent32 rfl) (c_serverR _ x.srv hl1_x) rfl fun v_ w10 h_ => ?_
                obtain ⟨rfl, E_⟩ := h_
                replace Bg1 := Bg1.mod0 E_
                replace Bg2 := Bg2.mod0 E_
                replace E := E.then E_
                refine sv (o_not rfl) rfl ?_
                refine sv (o_mv rfl) rfl ?_
                refine sg rfl (Bool.eq_false_iff.2 hk0) (o_fa0 fd58_1 rfl) rfl ?_
                refine sg rfl (Bool.eq_false_iff.2 hk0) (o_ld sc9 rfl (Bg2.cell rfl)) rfl ?_
                refine sgc rfl (Bool.eq_false_iff.2 hk0) (o_call ent33 rfl) (c_keyR _ x.key hl2_x) rfl fun v_ w11 h_ => ?_
                obtain ⟨rfl, E_⟩ := h_
                replace Bg1 := Bg1.mod0 E_
                replace Bg2 := Bg2.mod0 E_
                replace E := E.then E_
                refine sg rfl (Bool.eq_false_iff.2 hk0) (o_not rfl) rfl ?_
                refine sv (o_pickF (Bool.eq_false_iff.2 hk0) rfl rfl) rfl ?_
                refine sv (o_mv rfl) rfl ?_
                refine sn rfl (fun e_ => absurd ((hk1).symm.trans e_) (by decide)) rfl ?_
                refine sn rfl (fun e_ => absurd ((hk1).symm.trans e_) (by decide)) rfl ?_
                refine sn rfl (fun e_ => absurd ((hk1).symm.trans e_) (by decide)) rfl ?_
                refine sn rfl (fun e_ => absurd ((hk1).symm.trans e_) (by decide)) rfl ?_
                refine sv (o_pickT (hk1) rfl rfl) rfl ?_
                refine l_nil ?_
                refine e_K (hK29 _ _ _ _ ?_)
                refine c_true rfl ?_
                have h_ : keyB x.key = false := by simpa using hk1
                have hF : e.fine = false := EV.fine_sigs (by rw [hinv, sigsL_at hx_x, show sigB x = false by simp [sigB, h_]]; rfl)
                refine c_seq fun K31 hK31 => ?_
                refine c_region ?_
                refine sv (o_as rfl) rfl ?_
                refine l_nil ?_
                refine e_K (hK31 _ _ _ _ ?_)
                refine c_ret ?_
                refine e_then (by simp) ?_
                refine e_in (by simp) ?_
                refine e_then (by simp) ?_
                refine e_then (by simp) ?_
                refine e_in (by simp) ?_
                refine e_then (by simp) ?_
                exact ret1 rfl rfl ⟨by rw [EV.chk_no hfew hF], E⟩
              · skip
                by_cases hk2 : (!bytesB x.sig 64) = true
                · skip
                  refine c_region ?_
                  refine sv (o_fa0 fd58_0 rfl) rfl ?_
                  refine sv (o_ld sc9 rfl (Bg2.cell rfl)) rfl ?_
                  refine sc (o_call ent32 rfl) (c_serverR _ x.srv hl1_x) rfl fun v_ w12 h_ => ?_
                  obtain ⟨rfl, E_⟩ := h_
                  replace Bg1 := Bg1.mod0 E_
                  replace Bg2 := Bg2.mod0 E_
                  replace E := E.then E_
                  refine sv (o_not rfl) rfl ?_
                  refine sv (o_mv rfl) rfl ?_
                  refine sg rfl (Bool.eq_false_iff.2 hk0) (o_fa0 fd58_1 rfl) rfl ?_
                  refine sg rfl (Bool.eq_false_iff.2 hk0) (o_ld sc9 rfl (Bg2.cell rfl)) rfl ?_
                  refine sgc rfl (Bool.eq_false_iff.2 hk0) (o_call ent33 rfl) (c_keyR _ x.key hl2_x) rfl fun v_ w13 h_ => ?_
                  obtain ⟨rfl, E_⟩ := h_
                  replace Bg1 := Bg1.mod0 E_
                  replace Bg2 := Bg2.mod0 E_
                  replace E := E.then E_
                  refine sg rfl (Bool.eq_false_iff.2 hk0) (o_not rfl) rfl ?_
                  refine sv (o_pickF (Bool.eq_false_iff.2 hk0) rfl rfl) rfl ?_
                  refine sv (o_mv rfl) rfl ?_
                  refine sg rfl (Bool.eq_false_iff.2 hk1) (o_fa0 fd58_2 rfl) rfl ?_
                  refine sg rfl (Bool.eq_false_iff.2 hk1) (o_ld sc9 rfl (Bg2.cell rfl)) rfl ?_
                  refine sgc rfl (Bool.eq_false_iff.2 hk1) (o_call ent34 rfl) (c_stands _ x.sig 64 (by omega) hl3_x) rfl fun v_ w14 h_ => ?_
                  obtain ⟨rfl, E_⟩ := h_
                  replace Bg1 := Bg1.mod0 E_
                  replace Bg2 := Bg2.mod0 E_
                  replace E := E.then E_
                  refine sg rfl (Bool.eq_false_iff.2 hk1) (o_not rfl) rfl ?_
                  refine sv (o_pickF (Bool.eq_false_iff.2 hk1) rfl rfl) rfl ?_
                  refine l_nil ?_
                  refine e_K (hK29 _ _ _ _ ?_)
                  refine c_cond rfl (fun h69 => ?_) (fun h69 => absurd ((hk2).symm.trans h69) (by decide))
                  have h_ : bytesB x.sig 64 = false := by simpa using hk2
                  have hF : e.fine = false := EV.fine_sigs (by rw [hinv, sigsL_at hx_x, show sigB x = false by simp [sigB, h_]]; rfl)
                  refine c_seq fun K32 hK32 => ?_
                  refine c_region ?_
                  refine sv (o_as rfl) rfl ?_
                  refine l_nil ?_
                  refine e_K (hK32 _ _ _ _ ?_)
                  refine c_ret ?_
                  refine e_then (by simp) ?_
                  refine e_in (by simp) ?_
                  refine e_then (by simp) ?_
                  refine e_then (by simp) ?_
                  refine e_in (by simp) ?_
                  refine e_then (by simp) ?_
                  exact ret1 rfl rfl ⟨by rw [EV.chk_no hfew hF], E⟩
                · skip
                  refine c_region ?_
                  refine sv (o_fa0 fd58_0 rfl) rfl ?_
                  refine sv (o_ld sc9 rfl (Bg2.cell rfl)) rfl ?_
                  refine sc (o_call ent32 rfl) (c_serverR _ x.srv hl1_x) rfl fun v_ w15 h_ => ?_
                  obtain ⟨rfl, E_⟩ := h_
                  replace Bg1 := Bg1.mod0 E_
                  replace Bg2 := Bg2.mod0 E_
                  replace E := E.then E_
                  refine sv (o_not rfl) rfl ?_
                  refine sv (o_mv rfl) rfl ?_
                  refine sg rfl (Bool.eq_false_iff.2 hk0) (o_fa0 fd58_1 rfl) rfl ?_
                  refine sg rfl (Bool.eq_false_iff.2 hk0) (o_ld sc9 rfl (Bg2.cell rfl)) rfl ?_
                  refine sgc rfl (Bool.eq_false_iff.2 hk0) (o_call ent33 rfl) (c_keyR _ x.key hl2_x) rfl fun v_ w16 h_ => ?_
                  obtain ⟨rfl, E_⟩ := h_
                  replace Bg1 := Bg1.mod0 E_
                  replace Bg2 := Bg2.mod0 E_
                  replace E := E.then E_
                  refine sg rfl (Bool.eq_false_iff.2 hk0) (o_not rfl) rfl ?_
                  refine sv (o_pickF (Bool.eq_false_iff.2 hk0) rfl rfl) rfl ?_
                  refine sv (o_mv rfl) rfl ?_
                  refine sg rfl (Bool.eq_false_iff.2 hk1) (o_fa0 fd58_2 rfl) rfl ?_
                  refine sg rfl (Bool.eq_false_iff.2 hk1) (o_ld sc9 rfl (Bg2.cell rfl)) rfl ?_
                  refine sgc rfl (Bool.eq_false_iff.2 hk1) (o_call ent34 rfl) (c_stands _ x.sig 64 (by omega) hl3_x) rfl fun v_ w17 h_ => ?_
                  obtain ⟨rfl, E_⟩ := h_
                  replace Bg1 := Bg1.mod0 E_
                  replace Bg2 := Bg2.mod0 E_
                  replace E := E.then E_
                  refine sg rfl (Bool.eq_false_iff.2 hk1) (o_not rfl) rfl ?_
                  refine sv (o_pickF (Bool.eq_false_iff.2 hk1) rfl rfl) rfl ?_
                  refine l_nil ?_
                  refine e_K (hK29 _ _ _ _ ?_)
                  refine c_cond rfl (fun h69 => absurd ((Bool.eq_false_iff.2 hk2).symm.trans h69) (by decide)) (fun h69 => ?_)
                  have g0 : serverB x.srv = true := by simpa using hk0
                  have g1_ : keyB x.key = true := by simpa using hk1
                  have g2_ : bytesB x.sig 64 = true := by simpa using hk2
                  have hsg : sigB x = true := by rw [sigB, g0, g1_, g2_]; rfl
                  refine c_skip ?_
                  refine e_K (hK28 _ _ _ _ ?_)
                  refine c_seq fun K33 hK33 => ?_
                  refine c_region ?_
                  refine sv (o_mv rfl) rfl ?_
                  refine sv (o_gtr rfl rfl) rfl ?_
                  refine l_nil ?_
                  refine e_K (hK33 _ _ _ _ ?_)
                  refine c_if rfl (fun h71 => ?_) (fun h71 => ?_)
                  · skip
                    refine c_seq fun K34 hK34 => ?_
                    refine c_region ?_
                    refine sv (o_fa0 fd33_11 rfl) rfl ?_
                    refine sv (o_ld sc31 rfl (Bg1.cell rfl)) rfl ?_
                    refine sv (o_mv rfl) rfl ?_
                    refine sv (o_subE (r := ((k - 1 : Nat) : Int)) rfl rfl (by rw [wrap64_in _ (by omega)]; omega)) rfl ?_
                    obtain ⟨q, hx_q⟩ : ∃ x, e.sigs[k - 1]? = some x := ⟨_, List.getElem?_eq_getElem (by omega)⟩
                    obtain ⟨a_q, ha_q, hcs_q, _⟩ := flat_at (Rs.to0 E) hx_q
                    cases ha_q
                    obtain ⟨hl1_q, hl2_q, hl3_q⟩ := ho11 q (List.mem_of_getElem? hx_q)
                    refine sv (o_ix sl31 rfl rfl (by omega)) rfl ?_
                    refine sv (o_lda ag58 rfl rfl hcs_q) rfl ?_
                    refine s_alloc zv58 rfl fun g3 w18 N3 => ?_
                    have Lg3_E := N3.le E
                    have Dg1_g3 := N3.ne Bg1
                    have Dg2_g3 := N3.ne Bg2
                    replace Bg1 := Bg1.mod0 N3.mod
                    replace Bg2 := Bg2.mod0 N3.mod
                    replace E := E.then N3.mod
                    have Bg3 := N3.blk
                    refine s_sta (vs := [_, _, _]) ag58 Bg3 rfl rfl rfl (by simp [Value.oneCell']) (by simp) fun w19 P19 => ?_
                    replace Bg1 := Bg1.ne P19.mod (Ne.symm (Ne.symm Dg1_g3))
                    replace Bg2 := Bg2.ne P19.mod (Ne.symm (Ne.symm Dg2_g3))
                    replace E := E.own P19.mod Lg3_E
                    replace Bg3 : Blk w19 g3 _ [_, _, _] := P19.blk
                    refine l_nil ?_
                    refine e_K (hK34 _ _ _ _ ?_)
                    refine c_seq fun K35 hK35 => ?_
                    by_cases hk4 : (!(bl q.srv x.srv || q.srv == x.srv)) = true
                    · skip
                      refine c_region ?_
                      refine sv (o_fa0 fd58_0 rfl) rfl ?_
                      refine sv (o_ld sc9 rfl (Bg3.cell rfl)) rfl ?_
                      refine sv (o_fa0 fd58_0 rfl) rfl ?_
                      refine sv (o_ld sc9 rfl (Bg2.cell rfl)) rfl ?_
                      refine sv (o_sgt rfl rfl) rfl ?_
                      refine sv (o_mv rfl) rfl ?_
                      refine sn rfl (fun e_ => absurd ((hk4).symm.trans e_) (by decide)) rfl ?_
                      refine sn rfl (fun e_ => absurd ((hk4).symm.trans e_) (by decide)) rfl ?_
                      refine sn rfl (fun e_ => absurd ((hk4).symm.trans e_) (by decide)) rfl ?_
                      refine sn rfl (fun e_ => absurd ((hk4).symm.trans e_) (by decide)) rfl ?_
                      refine sn rfl (fun e_ => absurd ((hk4).symm.trans e_) (by decide)) rfl ?_
                      refine sn rfl (fun e_ => absurd ((hk4).symm.trans e_) (by decide)) rfl ?_
                      refine snu rfl rfl rfl ?_
                      refine snu rfl rfl rfl ?_
                      refine snu rfl rfl rfl ?_
                      refine snu rfl rfl rfl ?_
                      refine snu rfl rfl rfl ?_
                      refine sn rfl (fun e_ => absurd ((hk4).symm.trans e_) (by decide)) rfl ?_
                      refine sv (o_pickT (hk4) rfl rfl) rfl ?_
                      refine l_nil ?_
                      refine e_K (hK35 _ _ _ _ ?_)
                      refine c_true rfl ?_
                      have hb_ : sigBad q x = true := by rw [sigBad]; simp only [hk4, Bool.true_and, Bool.and_true, Bool.false_and, Bool.and_false, Bool.true_or, Bool.or_true, Bool.false_or, Bool.or_false, Bool.not_true, Bool.not_false]
                      have hF : e.fine = false := EV.fine_sigs (by rw [hinv, sigsL_at hx_x, okP_at hx_q (by omega), hb_]; simp)
                      refine c_seq fun K36 hK36 => ?_
                      refine c_region ?_
                      refine sv (o_as rfl) rfl ?_
                      refine l_nil ?_
                      refine e_K (hK36 _ _ _ _ ?_)
                      refine c_ret ?_
                      refine e_in (by simp) ?_
                      refine e_then (by simp) ?_
                      refine e_then (by simp) ?_
                      refine e_in (by simp) ?_
                      refine e_then (by simp) ?_
                      exact ret1 rfl rfl ⟨by rw [EV.chk_no hfew hF], E⟩
                    · skip
                      by_cases hk5 : q.srv = x.srv
                      · skip
                        by_cases hk6 : (!bl q.key x.key) = true
                        · skip
                          refine c_region ?_
                          refine sv (o_fa0 fd58_0 rfl) rfl ?_
                          refine sv (o_ld sc9 rfl (Bg3.cell rfl)) rfl ?_
                          refine sv (o_fa0 fd58_0 rfl) rfl ?_
                          refine sv (o_ld sc9 rfl (Bg2.cell rfl)) rfl ?_
                          refine sv (o_sgt rfl rfl) rfl ?_
                          refine sv (o_mv rfl) rfl ?_
                          refine sg rfl (Bool.eq_false_iff.2 hk4) (o_fa0 fd58_0 rfl) rfl ?_
                          refine sg rfl (Bool.eq_false_iff.2 hk4) (o_ld sc9 rfl (Bg3.cell rfl)) rfl ?_
                          refine sg rfl (Bool.eq_false_iff.2 hk4) (o_fa0 fd58_0 rfl) rfl ?_
                          refine sg rfl (Bool.eq_false_iff.2 hk4) (o_ld sc9 rfl (Bg2.cell rfl)) rfl ?_
                          refine sg rfl (Bool.eq_false_iff.2 hk4) (o_seq rfl rfl) rfl ?_
                          refine sg rfl (Bool.eq_false_iff.2 hk4) (o_mv rfl) rfl ?_
                          refine sg rfl (decide_eq_true hk5) (o_fa0 fd58_1 rfl) rfl ?_
                          refine sg rfl (decide_eq_true hk5) (o_ld sc9 rfl (Bg3.cell rfl)) rfl ?_
                          refine sg rfl (decide_eq_true hk5) (o_fa0 fd58_1 rfl) rfl ?_
                          refine sg rfl (decide_eq_true hk5) (o_ld sc9 rfl (Bg2.cell rfl)) rfl ?_
                          refine sg rfl (decide_eq_true hk5) (o_sge rfl rfl) rfl ?_
                          refine sg rfl (Bool.eq_false_iff.2 hk4) (o_pickT (decide_eq_true hk5) rfl rfl) rfl ?_
                          refine sv (o_pickF (Bool.eq_false_iff.2 hk4) rfl rfl) rfl ?_
                          refine l_nil ?_
                          refine e_K (hK35 _ _ _ _ ?_)
                          refine c_cond rfl (fun h96 => ?_) (fun h96 => absurd ((hk6).symm.trans h96) (by decide))
                          have hb_ : sigBad q x = true := by rw [sigBad]; simp only [Bool.eq_false_iff.2 hk4, decide_eq_true hk5, hk6, Bool.true_and, Bool.and_true, Bool.false_and, Bool.and_false, Bool.true_or, Bool.or_true, Bool.false_or, Bool.or_false, Bool.not_true, Bool.not_false]
                          have hF : e.fine = false := EV.fine_sigs (by rw [hinv, sigsL_at hx_x, okP_at hx_q (by omega), hb_]; simp)
                          refine c_seq fun K37 hK37 => ?_
                          refine c_region ?_
                          refine sv (o_as rfl) rfl ?_
                          refine l_nil ?_
                          refine e_K (hK37 _ _ _ _ ?_)
                          refine c_ret ?_
                          refine e_in (by simp) ?_
                          refine e_then (by simp) ?_
                          refine e_then (by simp) ?_
                          refine e_in (by simp) ?_
                          refine e_then (by simp) ?_
                          exact ret1 rfl rfl ⟨by rw [EV.chk_no hfew hF], E⟩
                        · skip
                          refine c_region ?_
                          refine sv (o_fa0 fd58_0 rfl) rfl ?_
                          refine sv (o_ld sc9 rfl (Bg3.cell rfl)) rfl ?_
                          refine sv (o_fa0 fd58_0 rfl) rfl ?_
                          refine sv (o_ld sc9 rfl (Bg2.cell rfl)) rfl ?_
                          refine sv (o_sgt rfl rfl) rfl ?_
                          refine sv (o_mv rfl) rfl ?_
                          refine sg rfl (Bool.eq_false_iff.2 hk4) (o_fa0 fd58_0 rfl) rfl ?_
                          refine sg rfl (Bool.eq_false_iff.2 hk4) (o_ld sc9 rfl (Bg3.cell rfl)) rfl ?_
                          refine sg rfl (Bool.eq_false_iff.2 hk4) (o_fa0 fd58_0 rfl) rfl ?_
                          refine sg rfl (Bool.eq_false_iff.2 hk4) (o_ld sc9 rfl (Bg2.cell rfl)) rfl ?_
                          refine sg rfl (Bool.eq_false_iff.2 hk4) (o_seq rfl rfl) rfl ?_
                          refine sg rfl (Bool.eq_false_iff.2 hk4) (o_mv rfl) rfl ?_
                          refine sg rfl (decide_eq_true hk5) (o_fa0 fd58_1 rfl) rfl ?_
                          refine sg rfl (decide_eq_true hk5) (o_ld sc9 rfl (Bg3.cell rfl)) rfl ?_
                          refine sg rfl (decide_eq_true hk5) (o_fa0 fd58_1 rfl) rfl ?_
                          refine sg rfl (decide_eq_true hk5) (o_ld sc9 rfl (Bg2.cell rfl)) rfl ?_
                          refine sg rfl (decide_eq_true hk5) (o_sge rfl rfl) rfl ?_
                          refine sg rfl (Bool.eq_false_iff.2 hk4) (o_pickT (decide_eq_true hk5) rfl rfl) rfl ?_
                          refine sv (o_pickF (Bool.eq_false_iff.2 hk4) rfl rfl) rfl ?_
                          refine l_nil ?_
                          refine e_K (hK35 _ _ _ _ ?_)
                          refine c_cond rfl (fun h96 => absurd ((Bool.eq_false_iff.2 hk6).symm.trans h96) (by decide)) (fun h96 => ?_)
                          have hb_ : sigBad q x = false := by rw [sigBad]; simp only [Bool.eq_false_iff.2 hk4, decide_eq_true hk5, Bool.eq_false_iff.2 hk6, Bool.true_and, Bool.and_true, Bool.false_and, Bool.and_false, Bool.true_or, Bool.or_true, Bool.false_or, Bool.or_false, Bool.not_true, Bool.not_false]
                          have hnx : sigsL none e.sigs = sigsL (prevS e.sigs (k + 1)) (e.sigs.drop (k + 1)) := by rw [hinv, sigsL_at hx_x, hsg, okP_at hx_q (by omega), hb_]; rfl
                          refine c_skip ?_
                          refine e_in (by simp) ?_
                          refine e_K (hK26 _ _ _ _ ?_)
                          refine c_region ?_
                          refine sv (o_addN rfl rfl (by omega)) rfl ?_
                          refine sv (o_mv rfl) rfl ?_
                          refine l_nil ?_
                          exact e_round (σ := Nat) (s := k) (k + 1) ⟨rfl, rfl, rfl, rfl, trivial⟩ ⟨by omega, hnx, Bg1, E⟩ (by omega)
                      · skip
                        refine c_region ?_
                        refine sv (o_fa0 fd58_0 rfl) rfl ?_
                        refine sv (o_ld sc9 rfl (Bg3.cell rfl)) rfl ?_
                        refine sv (o_fa0 fd58_0 rfl) rfl ?_
                        refine sv (o_ld sc9 rfl (Bg2.cell rfl)) rfl ?_
                        refine sv (o_sgt rfl rfl) rfl ?_
                        refine sv (o_mv rfl) rfl ?_
                        refine sg rfl (Bool.eq_false_iff.2 hk4) (o_fa0 fd58_0 rfl) rfl ?_
                        refine sg rfl (Bool.eq_false_iff.2 hk4) (o_ld sc9 rfl (Bg3.cell rfl)) rfl ?_
                        refine sg rfl (Bool.eq_false_iff.2 hk4) (o_fa0 fd58_0 rfl) rfl ?_
                        refine sg rfl (Bool.eq_false_iff.2 hk4) (o_ld sc9 rfl (Bg2.cell rfl)) rfl ?_
                        refine sg rfl (Bool.eq_false_iff.2 hk4) (o_seq rfl rfl) rfl ?_
                        refine sg rfl (Bool.eq_false_iff.2 hk4) (o_mv rfl) rfl ?_
                        refine sn rfl (fun e_ => absurd ((decide_eq_false hk5).symm.trans e_) (by decide)) rfl ?_
                        refine sn rfl (fun e_ => absurd ((decide_eq_false hk5).symm.trans e_) (by decide)) rfl ?_
                        refine sn rfl (fun e_ => absurd ((decide_eq_false hk5).symm.trans e_) (by decide)) rfl ?_
                        refine sn rfl (fun e_ => absurd ((decide_eq_false hk5).symm.trans e_) (by decide)) rfl ?_
                        refine sn rfl (fun e_ => absurd ((decide_eq_false hk5).symm.trans e_) (by decide)) rfl ?_
                        refine sg rfl (Bool.eq_false_iff.2 hk4) (o_pickF (decide_eq_false hk5) rfl rfl) rfl ?_
                        refine sv (o_pickF (Bool.eq_false_iff.2 hk4) rfl rfl) rfl ?_
                        refine l_nil ?_
                        refine e_K (hK35 _ _ _ _ ?_)
                        refine c_false rfl ?_
                        have hb_ : sigBad q x = false := by rw [sigBad]; simp only [Bool.eq_false_iff.2 hk4, decide_eq_false hk5, Bool.true_and, Bool.and_true, Bool.false_and, Bool.and_false, Bool.true_or, Bool.or_true, Bool.false_or, Bool.or_false, Bool.not_true, Bool.not_false]
                        have hnx : sigsL none e.sigs = sigsL (prevS e.sigs (k + 1)) (e.sigs.drop (k + 1)) := by rw [hinv, sigsL_at hx_x, hsg, okP_at hx_q (by omega), hb_]; rfl
                        refine c_skip ?_
                        refine e_in (by simp) ?_
                        refine e_K (hK26 _ _ _ _ ?_)
                        refine c_region ?_
                        refine sv (o_addN rfl rfl (by omega)) rfl ?_
                        refine sv (o_mv rfl) rfl ?_
                        refine l_nil ?_
                        exact e_round (σ := Nat) (s := k) (k + 1) ⟨rfl, rfl, rfl, rfl, trivial⟩ ⟨by omega, hnx, Bg1, E⟩ (by omega)
                  · skip
                    have hnx : sigsL none e.sigs = sigsL (prevS e.sigs (k + 1)) (e.sigs.drop (k + 1)) := by rw [hinv, sigsL_at hx_x, hsg, okP_0 (by omega)]; rfl
                    refine c_skip ?_
                    refine e_in (by simp) ?_
                    refine e_K (hK26 _ _ _ _ ?_)
                    refine c_region ?_
                    refine sv (o_addN rfl rfl (by omega)) rfl ?_
                    refine sv (o_mv rfl) rfl ?_
                    refine l_nil ?_
                    exact e_round (σ := Nat) (s := k) (k + 1) ⟨rfl, rfl, rfl, rfl, trivial⟩ ⟨by omega, hnx, Bg1, E⟩ (by omega)
          · skip
            have hsg9 : sigsL none e.sigs = true := by rw [hinv, sigsL_end (by omega)]
            refine c_exit ?_
            refine e_then (by simp) ?_
            refine e_then (by simp) ?_
            refine e_hit ?_
            refine e_K (hK22 _ _ _ _ ?_)
            refine c_seq fun K38 hK38 => ?_
            refine c_region ?_
            refine sv (o_fa0 fd33_5 rfl) rfl ?_
            refine sv (o_lda (vs := [_, _, _, _, _, _]) ag25 rfl rfl (Bg1.cs rfl)) rfl ?_
            refine sc (o_call ent8 rfl) (c_canonR _ e.con _ (Rc.to0 E) (hT.mod E (by simp))) rfl fun v_ w20 h_ => ?_
            obtain ⟨rfl, E_⟩ := h_
            replace Bg1 := Bg1.mod0 E_
            replace E := E.then E_
            refine sv (o_mv rfl) rfl ?_
            refine sv (o_ext rfl rfl) rfl ?_
            refine sv (o_ext rfl rfl) rfl ?_
            refine sv (o_as rfl) rfl ?_
            refine sv (o_as rfl) rfl ?_
            refine l_nil ?_
            refine e_K (hK38 _ _ _ _ ?_)
            refine c_seq fun K39 hK39 => ?_
            have J39 : ∀  (w1 : World), Blk w1 g1 33 [S e.room, S e.snd, S e.ty, .bool e.st, S e.key, .int .i64 e.con.kind, .bool e.con.is, .int .i64 e.con.num, S e.con.str, .slice al e.con.list.length cl, .slice am e.con.map.length cm, .slice ap e.prev.length cp, .slice aa e.auth.length ca, .int .i64 e.dep, .int .i64 e.time, S e.hash, .slice aS e.sigs.length cS] ∧ Mod [] w w1 → ∀ a, Has 177 [] [(1, .pointer (some ⟨g1, 0, none⟩)), (11, .int .i64 (ern (e.con.wr 0 []))), (12, .bool e.names)] a → K39 a w1 := by
              intro  w21 hI
              obtain ⟨Bg1, E⟩ := hI
              refine hK39 _ _ _ _ ?_
              refine c_seq fun K40 hK40 => ?_
              have J40 : ∀  (w1 : World), Blk w1 g1 33 [S e.room, S e.snd, S e.ty, .bool e.st, S e.key, .int .i64 e.con.kind, .bool e.con.is, .int .i64 e.con.num, S e.con.str, .slice al e.con.list.length cl, .slice am e.con.map.length cm, .slice ap e.prev.length cp, .slice aa e.auth.length ca, .int .i64 e.dep, .int .i64 e.time, S e.hash, .slice aS e.sigs.length cS] ∧ Mod [] w w1 → ∀ a, Has 177 [] [(1, .pointer (some ⟨g1, 0, none⟩)), (11, .int .i64 (ern (e.con.wr 0 []))), (12, .bool e.names), (13, .bool e.nums)] a → K40 a w1 := by
                intro  w22 hI
                obtain ⟨Bg1, E⟩ := hI
                refine hK40 _ _ _ _ ?_
                refine c_seq fun K41 hK41 => ?_
                refine c_seq fun K42 hK42 => ?_
                by_cases hk0 : (e.names) = true
                · skip
                  by_cases hk1 : (e.nums) = true
                  · skip
                    by_cases hk2 : (e.st) = true
                    · skip
                      by_cases hk4 : e.con.kind = 5
                      · skip
                        by_cases hk5 : ern (e.con.wr 0 []) = 0
                        · skip
                          by_cases hk6 : (bytesB e.hash 32) = true
                          · skip
                            refine c_region ?_
                            refine sv (o_mv rfl) rfl ?_
                            refine sv (o_not rfl) rfl ?_
                            refine sv (o_mv rfl) rfl ?_
                            refine sg rfl ((show (!e.names) = false by rw [hk0]; rfl)) (o_mv rfl) rfl ?_
                            refine sg rfl ((show (!e.names) = false by rw [hk0]; rfl)) (o_not rfl) rfl ?_
                            refine sv (o_pickF ((show (!e.names) = false by rw [hk0]; rfl)) rfl rfl) rfl ?_
                            refine sv (o_mv rfl) rfl ?_
                            refine sg rfl ((show (!e.nums) = false by rw [hk1]; rfl)) (o_fa0 fd33_3 rfl) rfl ?_
                            refine sg rfl ((show (!e.nums) = false by rw [hk1]; rfl)) (o_ld sc4 rfl (Bg1.cell rfl)) rfl ?_
                            refine sg rfl ((show (!e.nums) = false by rw [hk1]; rfl)) (o_not rfl) rfl ?_
                            refine sg rfl ((show (!e.nums) = false by rw [hk1]; rfl)) (o_mv rfl) rfl ?_
                            refine sn rfl (fun e_ => absurd (((show (!e.st) = false by rw [hk2]; rfl)).symm.trans e_) (by decide)) rfl ?_
                            refine sn rfl (fun e_ => absurd (((show (!e.st) = false by rw [hk2]; rfl)).symm.trans e_) (by decide)) rfl ?_
                            refine sn rfl (fun e_ => absurd (((show (!e.st) = false by rw [hk2]; rfl)).symm.trans e_) (by decide)) rfl ?_
                            refine sg rfl ((show (!e.nums) = false by rw [hk1]; rfl)) (o_pickF ((show (!e.st) = false by rw [hk2]; rfl)) rfl rfl) rfl ?_
                            refine sv (o_pickF ((show (!e.nums) = false by rw [hk1]; rfl)) rfl rfl) rfl ?_
                            refine sv (o_mv rfl) rfl ?_
                            refine sg rfl (rfl) (o_fa0 fd33_5 rfl) rfl ?_
                            refine sg rfl (rfl) (o_fa fd25_0 rfl) rfl ?_
                            refine sg rfl (rfl) (o_ld sc3 rfl (Bg1.cell rfl)) rfl ?_
                            refine sg rfl (rfl) (o_neq rfl rfl) rfl ?_
                            refine sv (o_pickF (rfl) rfl rfl) rfl ?_
                            refine sv (o_mv rfl) rfl ?_
                            refine sg rfl ((show decide (e.con.kind ≠ 5) = false from decide_eq_false (fun h_ => h_ hk4))) (o_mv rfl) rfl ?_
                            refine sg rfl ((show decide (e.con.kind ≠ 5) = false from decide_eq_false (fun h_ => h_ hk4))) (o_neq rfl rfl) rfl ?_
                            refine sv (o_pickF ((show decide (e.con.kind ≠ 5) = false from decide_eq_false (fun h_ => h_ hk4))) rfl rfl) rfl ?_
                            refine sv (o_mv rfl) rfl ?_
                            refine sg rfl ((show decide (ern (e.con.wr 0 []) ≠ 0) = false from decide_eq_false (fun h_ => h_ hk5))) (o_fa0 fd33_10 rfl) rfl ?_
                            refine sg rfl ((show decide (ern (e.con.wr 0 []) ≠ 0) = false from decide_eq_false (fun h_ => h_ hk5))) (o_ld sc9 rfl (Bg1.cell rfl)) rfl ?_
                            refine sgc rfl ((show decide (ern (e.con.wr 0 []) ≠ 0) = false from decide_eq_false (fun h_ => h_ hk5))) (o_call ent34 rfl) (c_stands _ e.hash 32 (by omega) ho10) rfl fun v_ w23 h_ => ?_
                            obtain ⟨rfl, E_⟩ := h_
                            replace Bg1 := Bg1.mod0 E_
                            replace E := E.then E_
                            refine sg rfl ((show decide (ern (e.con.wr 0 []) ≠ 0) = false from decide_eq_false (fun h_ => h_ hk5))) (o_not rfl) rfl ?_
                            refine sv (o_pickF ((show decide (ern (e.con.wr 0 []) ≠ 0) = false from decide_eq_false (fun h_ => h_ hk5))) rfl rfl) rfl ?_
                            refine l_nil ?_
                            refine e_K (hK42 _ _ _ _ ?_)
                            refine c_cond rfl (fun h176 => absurd (((show (!bytesB e.hash 32) = false by rw [hk6]; rfl)).symm.trans h176) (by decide)) (fun h176 => ?_)
                            have hF : e.fine = true := by rw [EV.fine_eq]; simp only [hk0, hk1, hk2, decide_eq_true hk4, decide_eq_true hk5, hk6, hsg9, hpv9, hau9, Bool.true_and, Bool.and_true, Bool.false_and, Bool.and_false, Bool.true_or, Bool.or_true, Bool.false_or, Bool.or_false, Bool.not_true, Bool.not_false]
                            refine c_skip ?_
                            refine e_K (hK41 _ _ _ _ ?_)
                            refine c_seq fun K43 hK43 => ?_
                            refine c_region ?_
                            refine sv (o_as rfl) rfl ?_
                            refine l_nil ?_
                            refine e_K (hK43 _ _ _ _ ?_)
                            refine c_ret ?_
                            exact ret1 rfl rfl ⟨by rw [EV.chk_yes hfew hF], E⟩
                          · skip
                            refine c_region ?_
                            refine sv (o_mv rfl) rfl ?_
                            refine sv (o_not rfl) rfl ?_
                            refine sv (o_mv rfl) rfl ?_
                            refine sg rfl ((show (!e.names) = false by rw [hk0]; rfl)) (o_mv rfl) rfl ?_
                            refine sg rfl ((show (!e.names) = false by rw [hk0]; rfl)) (o_not rfl) rfl ?_
                            refine sv (o_pickF ((show (!e.names) = false by rw [hk0]; rfl)) rfl rfl) rfl ?_
                            refine sv (o_mv rfl) rfl ?_
                            refine sg rfl ((show (!e.nums) = false by rw [hk1]; rfl)) (o_fa0 fd33_3 rfl) rfl ?_
                            refine sg rfl ((show (!e.nums) = false by rw [hk1]; rfl)) (o_ld sc4 rfl (Bg1.cell rfl)) rfl ?_
                            refine sg rfl ((show (!e.nums) = false by rw [hk1]; rfl)) (o_not rfl) rfl ?_
                            refine sg rfl ((show (!e.nums) = false by rw [hk1]; rfl)) (o_mv rfl) rfl ?_
                            refine sn rfl (fun e_ => absurd (((show (!e.st) = false by rw [hk2]; rfl)).symm.trans e_) (by decide)) rfl ?_
                            refine sn rfl (fun e_ => absurd (((show (!e.st) = false by rw [hk2]; rfl)).symm.trans e_) (by decide)) rfl ?_
                            refine sn rfl (fun e_ => absurd (((show (!e.st) = false by rw [hk2]; rfl)).symm.trans e_) (by decide)) rfl ?_
                            refine sg rfl ((show (!e.nums) = false by rw [hk1]; rfl)) (o_pickF ((show (!e.st) = false by rw [hk2]; rfl)) rfl rfl) rfl ?_
                            refine sv (o_pickF ((show (!e.nums) = false by rw [hk1]; rfl)) rfl rfl) rfl ?_
                            refine sv (o_mv rfl) rfl ?_
                            refine sg rfl (rfl) (o_fa0 fd33_5 rfl) rfl ?_
                            refine sg rfl (rfl) (o_fa fd25_0 rfl) rfl ?_
                            refine sg rfl (rfl) (o_ld sc3 rfl (Bg1.cell rfl)) rfl ?_
                            refine sg rfl (rfl) (o_neq rfl rfl) rfl ?_
                            refine sv (o_pickF (rfl) rfl rfl) rfl ?_
                            refine sv (o_mv rfl) rfl ?_
                            refine sg rfl ((show decide (e.con.kind ≠ 5) = false from decide_eq_false (fun h_ => h_ hk4))) (o_mv rfl) rfl ?_
                            refine sg rfl ((show decide (e.con.kind ≠ 5) = false from decide_eq_false (fun h_ => h_ hk4))) (o_neq rfl rfl) rfl ?_
                            refine sv (o_pickF ((show decide (e.con.kind ≠ 5) = false from decide_eq_false (fun h_ => h_ hk4))) rfl rfl) rfl ?_
                            refine sv (o_mv rfl) rfl ?_
                            refine sg rfl ((show decide (ern (e.con.wr 0 []) ≠ 0) = false from decide_eq_false (fun h_ => h_ hk5))) (o_fa0 fd33_10 rfl) rfl ?_
                            refine sg rfl ((show decide (ern (e.con.wr 0 []) ≠ 0) = false from decide_eq_false (fun h_ => h_ hk5))) (o_ld sc9 rfl (Bg1.cell rfl)) rfl ?_
                            refine sgc rfl ((show decide (ern (e.con.wr 0 []) ≠ 0) = false from decide_eq_false (fun h_ => h_ hk5))) (o_call ent34 rfl) (c_stands _ e.hash 32 (by omega) ho10) rfl fun v_ w24 h_ => ?_
                            obtain ⟨rfl, E_⟩ := h_
                            replace Bg1 := Bg1.mod0 E_
                            replace E := E.then E_
                            refine sg rfl ((show decide (ern (e.con.wr 0 []) ≠ 0) = false from decide_eq_false (fun h_ => h_ hk5))) (o_not rfl) rfl ?_
                            refine sv (o_pickF ((show decide (ern (e.con.wr 0 []) ≠ 0) = false from decide_eq_false (fun h_ => h_ hk5))) rfl rfl) rfl ?_
                            refine l_nil ?_
                            refine e_K (hK42 _ _ _ _ ?_)
                            refine c_cond rfl (fun h176 => ?_) (fun h176 => absurd (((show (!bytesB e.hash 32) = true by rw [Bool.eq_false_iff.2 hk6]; rfl)).symm.trans h176) (by decide))
                            have hF : e.fine = false := by rw [EV.fine_eq]; simp only [hk0, hk1, hk2, decide_eq_true hk4, decide_eq_true hk5, Bool.eq_false_iff.2 hk6, hsg9, hpv9, hau9, Bool.true_and, Bool.and_true, Bool.false_and, Bool.and_false, Bool.true_or, Bool.or_true, Bool.false_or, Bool.or_false, Bool.not_true, Bool.not_false]
                            refine c_seq fun K44 hK44 => ?_
                            refine c_region ?_
                            refine sv (o_as rfl) rfl ?_
                            refine l_nil ?_
                            refine e_K (hK44 _ _ _ _ ?_)
                            refine c_ret ?_
                            refine e_then (by simp) ?_
                            exact ret1 rfl rfl ⟨by rw [EV.chk_no hfew hF], E⟩
                        · skip
                          refine c_region ?_
                          refine sv (o_mv rfl) rfl ?_
                          refine sv (o_not rfl) rfl ?_
                          refine sv (o_mv rfl) rfl ?_
                          refine sg rfl ((show (!e.names) = false by rw [hk0]; rfl)) (o_mv rfl) rfl ?_
                          refine sg rfl ((show (!e.names) = false by rw [hk0]; rfl)) (o_not rfl) rfl ?_
                          refine sv (o_pickF ((show (!e.names) = false by rw [hk0]; rfl)) rfl rfl) rfl ?_
                          refine sv (o_mv rfl) rfl ?_
                          refine sg rfl ((show (!e.nums) = false by rw [hk1]; rfl)) (o_fa0 fd33_3 rfl) rfl ?_
                          refine sg rfl ((show (!e.nums) = false by rw [hk1]; rfl)) (o_ld sc4 rfl (Bg1.cell rfl)) rfl ?_
                          refine sg rfl ((show (!e.nums) = false by rw [hk1]; rfl)) (o_not rfl) rfl ?_
                          refine sg rfl ((show (!e.nums) = false by rw [hk1]; rfl)) (o_mv rfl) rfl ?_
                          refine sn rfl (fun e_ => absurd (((show (!e.st) = false by rw [hk2]; rfl)).symm.trans e_) (by decide)) rfl ?_
                          refine sn rfl (fun e_ => absurd (((show (!e.st) = false by rw [hk2]; rfl)).symm.trans e_) (by decide)) rfl ?_
                          refine sn rfl (fun e_ => absurd (((show (!e.st) = false by rw [hk2]; rfl)).symm.trans e_) (by decide)) rfl ?_
                          refine sg rfl ((show (!e.nums) = false by rw [hk1]; rfl)) (o_pickF ((show (!e.st) = false by rw [hk2]; rfl)) rfl rfl) rfl ?_
                          refine sv (o_pickF ((show (!e.nums) = false by rw [hk1]; rfl)) rfl rfl) rfl ?_
                          refine sv (o_mv rfl) rfl ?_
                          refine sg rfl (rfl) (o_fa0 fd33_5 rfl) rfl ?_
                          refine sg rfl (rfl) (o_fa fd25_0 rfl) rfl ?_
                          refine sg rfl (rfl) (o_ld sc3 rfl (Bg1.cell rfl)) rfl ?_
                          refine sg rfl (rfl) (o_neq rfl rfl) rfl ?_
                          refine sv (o_pickF (rfl) rfl rfl) rfl ?_
                          refine sv (o_mv rfl) rfl ?_
                          refine sg rfl ((show decide (e.con.kind ≠ 5) = false from decide_eq_false (fun h_ => h_ hk4))) (o_mv rfl) rfl ?_
                          refine sg rfl ((show decide (e.con.kind ≠ 5) = false from decide_eq_false (fun h_ => h_ hk4))) (o_neq rfl rfl) rfl ?_
                          refine sv (o_pickF ((show decide (e.con.kind ≠ 5) = false from decide_eq_false (fun h_ => h_ hk4))) rfl rfl) rfl ?_
                          refine sv (o_mv rfl) rfl ?_
                          refine sn rfl (fun e_ => absurd (((show decide (ern (e.con.wr 0 []) ≠ 0) = true from decide_eq_true hk5)).symm.trans e_) (by decide)) rfl ?_
                          refine sn rfl (fun e_ => absurd (((show decide (ern (e.con.wr 0 []) ≠ 0) = true from decide_eq_true hk5)).symm.trans e_) (by decide)) rfl ?_
                          refine sn rfl (fun e_ => absurd (((show decide (ern (e.con.wr 0 []) ≠ 0) = true from decide_eq_true hk5)).symm.trans e_) (by decide)) rfl ?_
                          refine sn rfl (fun e_ => absurd (((show decide (ern (e.con.wr 0 []) ≠ 0) = true from decide_eq_true hk5)).symm.trans e_) (by decide)) rfl ?_
                          refine sv (o_pickT ((show decide (ern (e.con.wr 0 []) ≠ 0) = true from decide_eq_true hk5)) rfl rfl) rfl ?_
                          refine l_nil ?_
                          refine e_K (hK42 _ _ _ _ ?_)
                          refine c_true rfl ?_
                          have hF : e.fine = false := by rw [EV.fine_eq]; simp only [hk0, hk1, hk2, decide_eq_true hk4, decide_eq_false hk5, hsg9, hpv9, hau9, Bool.true_and, Bool.and_true, Bool.false_and, Bool.and_false, Bool.true_or, Bool.or_true, Bool.false_or, Bool.or_false, Bool.not_true, Bool.not_false]
                          refine c_seq fun K45 hK45 => ?_
                          refine c_region ?_
                          refine sv (o_as rfl) rfl ?_
                          refine l_nil ?_
                          refine e_K (hK45 _ _ _ _ ?_)
                          refine c_ret ?_
                          refine e_then (by simp) ?_
                          exact ret1 rfl rfl ⟨by rw [EV.chk_no hfew hF], E⟩
                      · skip
                        refine c_region ?_
                        refine sv (o_mv rfl) rfl ?_
                        refine sv (o_not rfl) rfl ?_
                        refine sv (o_mv rfl) rfl ?_
                        refine sg rfl ((show (!e.names) = false by rw [hk0]; rfl)) (o_mv rfl) rfl ?_
                        refine sg rfl ((show (!e.names) = false by rw [hk0]; rfl)) (o_not rfl) rfl ?_
                        refine sv (o_pickF ((show (!e.names) = false by rw [hk0]; rfl)) rfl rfl) rfl ?_
                        refine sv (o_mv rfl) rfl ?_
                        refine sg rfl ((show (!e.nums) = false by rw [hk1]; rfl)) (o_fa0 fd33_3 rfl) rfl ?_
                        refine sg rfl ((show (!e.nums) = false by rw [hk1]; rfl)) (o_ld sc4 rfl (Bg1.cell rfl)) rfl ?_
                        refine sg rfl ((show (!e.nums) = false by rw [hk1]; rfl)) (o_not rfl) rfl ?_
                        refine sg rfl ((show (!e.nums) = false by rw [hk1]; rfl)) (o_mv rfl) rfl ?_
                        refine sn rfl (fun e_ => absurd (((show (!e.st) = false by rw [hk2]; rfl)).symm.trans e_) (by decide)) rfl ?_
                        refine sn rfl (fun e_ => absurd (((show (!e.st) = false by rw [hk2]; rfl)).symm.trans e_) (by decide)) rfl ?_
                        refine sn rfl (fun e_ => absurd (((show (!e.st) = false by rw [hk2]; rfl)).symm.trans e_) (by decide)) rfl ?_
                        refine sg rfl ((show (!e.nums) = false by rw [hk1]; rfl)) (o_pickF ((show (!e.st) = false by rw [hk2]; rfl)) rfl rfl) rfl ?_
                        refine sv (o_pickF ((show (!e.nums) = false by rw [hk1]; rfl)) rfl rfl) rfl ?_
                        refine sv (o_mv rfl) rfl ?_
                        refine sg rfl (rfl) (o_fa0 fd33_5 rfl) rfl ?_
                        refine sg rfl (rfl) (o_fa fd25_0 rfl) rfl ?_
                        refine sg rfl (rfl) (o_ld sc3 rfl (Bg1.cell rfl)) rfl ?_
                        refine sg rfl (rfl) (o_neq rfl rfl) rfl ?_
                        refine sv (o_pickF (rfl) rfl rfl) rfl ?_
                        refine sv (o_mv rfl) rfl ?_
                        refine sn rfl (fun e_ => absurd (((show decide (e.con.kind ≠ 5) = true from decide_eq_true hk4)).symm.trans e_) (by decide)) rfl ?_
                        refine sn rfl (fun e_ => absurd (((show decide (e.con.kind ≠ 5) = true from decide_eq_true hk4)).symm.trans e_) (by decide)) rfl ?_
                        refine sv (o_pickT ((show decide (e.con.kind ≠ 5) = true from decide_eq_true hk4)) rfl rfl) rfl ?_
                        refine sv (o_mv rfl) rfl ?_
                        refine sn rfl (fun e_ => absurd ((rfl).symm.trans e_) (by decide)) rfl ?_
                        refine sn rfl (fun e_ => absurd ((rfl).symm.trans e_) (by decide)) rfl ?_
                        refine sn rfl (fun e_ => absurd ((rfl).symm.trans e_) (by decide)) rfl ?_
                        refine sn rfl (fun e_ => absurd ((rfl).symm.trans e_) (by decide)) rfl ?_
                        refine sv (o_pickT (rfl) rfl rfl) rfl ?_
                        refine l_nil ?_
                        refine e_K (hK42 _ _ _ _ ?_)
                        refine c_true rfl ?_
                        have hF : e.fine = false := by rw [EV.fine_eq]; simp only [hk0, hk1, hk2, decide_eq_false hk4, hsg9, hpv9, hau9, Bool.true_and, Bool.and_true, Bool.false_and, Bool.and_false, Bool.true_or, Bool.or_true, Bool.false_or, Bool.or_false, Bool.not_true, Bool.not_false]
                        refine c_seq fun K46 hK46 => ?_
                        refine c_region ?_
                        refine sv (o_as rfl) rfl ?_
                        refine l_nil ?_
                        refine e_K (hK46 _ _ _ _ ?_)
                        refine c_ret ?_
                        refine e_then (by simp) ?_
                        exact ret1 rfl rfl ⟨by rw [EV.chk_no hfew hF], E⟩
                    · skip
                      by_cases hk3 : e.key = []
                      · skip
                        by_cases hk4 : e.con.kind = 5
                        · skip
                          by_cases hk5 : ern (e.con.wr 0 []) = 0
                          · skip
                            by_cases hk6 : (bytesB e.hash 32) = true
                            · skip
                              refine c_region ?_
                              refine sv (o_mv rfl) rfl ?_
                              refine sv (o_not rfl) rfl ?_
                              refine sv (o_mv rfl) rfl ?_
                              refine sg rfl ((show (!e.names) = false by rw [hk0]; rfl)) (o_mv rfl) rfl ?_
                              refine sg rfl ((show (!e.names) = false by rw [hk0]; rfl)) (o_not rfl) rfl ?_
                              refine sv (o_pickF ((show (!e.names) = false by rw [hk0]; rfl)) rfl rfl) rfl ?_
                              refine sv (o_mv rfl) rfl ?_
                              refine sg rfl ((show (!e.nums) = false by rw [hk1]; rfl)) (o_fa0 fd33_3 rfl) rfl ?_
                              refine sg rfl ((show (!e.nums) = false by rw [hk1]; rfl)) (o_ld sc4 rfl (Bg1.cell rfl)) rfl ?_
                              refine sg rfl ((show (!e.nums) = false by rw [hk1]; rfl)) (o_not rfl) rfl ?_
                              refine sg rfl ((show (!e.nums) = false by rw [hk1]; rfl)) (o_mv rfl) rfl ?_
                              refine sg rfl ((show (!e.st) = true by rw [Bool.eq_false_iff.2 hk2]; rfl)) (o_fa0 fd33_4 rfl) rfl ?_
                              refine sg rfl ((show (!e.st) = true by rw [Bool.eq_false_iff.2 hk2]; rfl)) (o_ld sc9 rfl (Bg1.cell rfl)) rfl ?_
                              refine sg rfl ((show (!e.st) = true by rw [Bool.eq_false_iff.2 hk2]; rfl)) (o_sne rfl rfl) rfl ?_
                              refine sg rfl ((show (!e.nums) = false by rw [hk1]; rfl)) (o_pickT ((show (!e.st) = true by rw [Bool.eq_false_iff.2 hk2]; rfl)) rfl rfl) rfl ?_
                              refine sv (o_pickF ((show (!e.nums) = false by rw [hk1]; rfl)) rfl rfl) rfl ?_
                              refine sv (o_mv rfl) rfl ?_
                              refine sg rfl ((show decide (e.key ≠ []) = false from decide_eq_false (fun h_ => h_ hk3))) (o_fa0 fd33_5 rfl) rfl ?_
                              refine sg rfl ((show decide (e.key ≠ []) = false from decide_eq_false (fun h_ => h_ hk3))) (o_fa fd25_0 rfl) rfl ?_
                              refine sg rfl ((show decide (e.key ≠ []) = false from decide_eq_false (fun h_ => h_ hk3))) (o_ld sc3 rfl (Bg1.cell rfl)) rfl ?_
                              refine sg rfl ((show decide (e.key ≠ []) = false from decide_eq_false (fun h_ => h_ hk3))) (o_neq rfl rfl) rfl ?_
                              refine sv (o_pickF ((show decide (e.key ≠ []) = false from decide_eq_false (fun h_ => h_ hk3))) rfl rfl) rfl ?_
                              refine sv (o_mv rfl) rfl ?_
                              refine sg rfl ((show decide (e.con.kind ≠ 5) = false from decide_eq_false (fun h_ => h_ hk4))) (o_mv rfl) rfl ?_
                              refine sg rfl ((show decide (e.con.kind ≠ 5) = false from decide_eq_false (fun h_ => h_ hk4))) (o_neq rfl rfl) rfl ?_
                              refine sv (o_pickF ((show decide (e.con.kind ≠ 5) = false from decide_eq_false (fun h_ => h_ hk4))) rfl rfl) rfl ?_
                              refine sv (o_mv rfl) rfl ?_
                              refine sg rfl ((show decide (ern (e.con.wr 0 []) ≠ 0) = false from decide_eq_false (fun h_ => h_ hk5))) (o_fa0 fd33_10 rfl) rfl ?_
                              refine sg rfl ((show decide (ern (e.con.wr 0 []) ≠ 0) = false from decide_eq_false (fun h_ => h_ hk5))) (o_ld sc9 rfl (Bg1.cell rfl)) rfl ?_
                              refine sgc rfl ((show decide (ern (e.con.wr 0 []) ≠ 0) = false from decide_eq_false (fun h_ => h_ hk5))) (o_call ent34 rfl) (c_stands _ e.hash 32 (by omega) ho10) rfl fun v_ w25 h_ => ?_
                              obtain ⟨rfl, E_⟩ := h_
                              replace Bg1 := Bg1.mod0 E_
                              replace E := E.then E_
                              refine sg rfl ((show decide (ern (e.con.wr 0 []) ≠ 0) = false from decide_eq_false (fun h_ => h_ hk5))) (o_not rfl) rfl ?_
                              refine sv (o_pickF ((show decide (ern (e.con.wr 0 []) ≠ 0) = false from decide_eq_false (fun h_ => h_ hk5))) rfl rfl) rfl ?_
                              refine l_nil ?_
                              refine e_K (hK42 _ _ _ _ ?_)
                              refine c_cond rfl (fun h176 => absurd (((show (!bytesB e.hash 32) = false by rw [hk6]; rfl)).symm.trans h176) (by decide)) (fun h176 => ?_)
                              have hF : e.fine = true := by rw [EV.fine_eq]; simp only [hk0, hk1, Bool.eq_false_iff.2 hk2, decide_eq_true hk3, decide_eq_true hk4, decide_eq_true hk5, hk6, hsg9, hpv9, hau9, Bool.true_and, Bool.and_true, Bool.false_and, Bool.and_false, Bool.true_or, Bool.or_true, Bool.false_or, Bool.or_false, Bool.not_true, Bool.not_false]
                              refine c_skip ?_
                              refine e_K (hK41 _ _ _ _ ?_)
                              refine c_seq fun K47 hK47 => ?_
                              refine c_region ?_
                              refine sv (o_as rfl) rfl ?_
                              refine l_nil ?_
                              refine e_K (hK47 _ _ _ _ ?_)
                              refine c_ret ?_
                              exact ret1 rfl rfl ⟨by rw [EV.chk_yes hfew hF], E⟩
                            · skip
                              refine c_region ?_
                              refine sv (o_mv rfl) rfl ?_
                              refine sv (o_not rfl) rfl ?_
                              refine sv (o_mv rfl) rfl ?_
                              refine sg rfl ((show (!e.names) = false by rw [hk0]; rfl)) (o_mv rfl) rfl ?_
                              refine sg rfl ((show (!e.names) = false by rw [hk0]; rfl)) (o_not rfl) rfl ?_
                              refine sv (o_pickF ((show (!e.names) = false by rw [hk0]; rfl)) rfl rfl) rfl ?_
                              refine sv (o_mv rfl) rfl ?_
                              refine sg rfl ((show (!e.nums) = false by rw [hk1]; rfl)) (o_fa0 fd33_3 rfl) rfl ?_
                              refine sg rfl ((show (!e.nums) = false by rw [hk1]; rfl)) (o_ld sc4 rfl (Bg1.cell rfl)) rfl ?_
                              refine sg rfl ((show (!e.nums) = false by rw [hk1]; rfl)) (o_not rfl) rfl ?_
                              refine sg rfl ((show (!e.nums) = false by rw [hk1]; rfl)) (o_mv rfl) rfl ?_
                              refine sg rfl ((show (!e.st) = true by rw [Bool.eq_false_iff.2 hk2]; rfl)) (o_fa0 fd33_4 rfl) rfl ?_
                              refine sg rfl ((show (!e.st) = true by rw [Bool.eq_false_iff.2 hk2]; rfl)) (o_ld sc9 rfl (Bg1.cell rfl)) rfl ?_
                              refine sg rfl ((show (!e.st) = true by rw [Bool.eq_false_iff.2 hk2]; rfl)) (o_sne rfl rfl) rfl ?_
                              refine sg rfl ((show (!e.nums) = false by rw [hk1]; rfl)) (o_pickT ((show (!e.st) = true by rw [Bool.eq_false_iff.2 hk2]; rfl)) rfl rfl) rfl ?_
                              refine sv (o_pickF ((show (!e.nums) = false by rw [hk1]; rfl)) rfl rfl) rfl ?_
                              refine sv (o_mv rfl) rfl ?_
                              refine sg rfl ((show decide (e.key ≠ []) = false from decide_eq_false (fun h_ => h_ hk3))) (o_fa0 fd33_5 rfl) rfl ?_
                              refine sg rfl ((show decide (e.key ≠ []) = false from decide_eq_false (fun h_ => h_ hk3))) (o_fa fd25_0 rfl) rfl ?_
                              refine sg rfl ((show decide (e.key ≠ []) = false from decide_eq_false (fun h_ => h_ hk3))) (o_ld sc3 rfl (Bg1.cell rfl)) rfl ?_
                              refine sg rfl ((show decide (e.key ≠ []) = false from decide_eq_false (fun h_ => h_ hk3))) (o_neq rfl rfl) rfl ?_
                              refine sv (o_pickF ((show decide (e.key ≠ []) = false from decide_eq_false (fun h_ => h_ hk3))) rfl rfl) rfl ?_
                              refine sv (o_mv rfl) rfl ?_
                              refine sg rfl ((show decide (e.con.kind ≠ 5) = false from decide_eq_false (fun h_ => h_ hk4))) (o_mv rfl) rfl ?_
                              refine sg rfl ((show decide (e.con.kind ≠ 5) = false from decide_eq_false (fun h_ => h_ hk4))) (o_neq rfl rfl) rfl ?_
                              refine sv (o_pickF ((show decide (e.con.kind ≠ 5) = false from decide_eq_false (fun h_ => h_ hk4))) rfl rfl) rfl ?_
                              refine sv (o_mv rfl) rfl ?_
                              refine sg rfl ((show decide (ern (e.con.wr 0 []) ≠ 0) = false from decide_eq_false (fun h_ => h_ hk5))) (o_fa0 fd33_10 rfl) rfl ?_
                              refine sg rfl ((show decide (ern (e.con.wr 0 []) ≠ 0) = false from decide_eq_false (fun h_ => h_ hk5))) (o_ld sc9 rfl (Bg1.cell rfl)) rfl ?_
                              refine sgc rfl ((show decide (ern (e.con.wr 0 []) ≠ 0) = false from decide_eq_false (fun h_ => h_ hk5))) (o_call ent34 rfl) (c_stands _ e.hash 32 (by omega) ho10) rfl fun v_ w26 h_ => ?_
                              obtain ⟨rfl, E_⟩ := h_
                              replace Bg1 := Bg1.mod0 E_
                              replace E := E.then E_
                              refine sg rfl ((show decide (ern (e.con.wr 0 []) ≠ 0) = false from decide_eq_false (fun h_ => h_ hk5))) (o_not rfl) rfl ?_
                              refine sv (o_pickF ((show decide (ern (e.con.wr 0 []) ≠ 0) = false from decide_eq_false (fun h_ => h_ hk5))) rfl rfl) rfl ?_
                              refine l_nil ?_
                              refine e_K (hK42 _ _ _ _ ?_)
                              refine c_cond rfl (fun h176 => ?_) (fun h176 => absurd (((show (!bytesB e.hash 32) = true by rw [Bool.eq_false_iff.2 hk6]; rfl)).symm.trans h176) (by decide))
                              have hF : e.fine = false := by rw [EV.fine_eq]; simp only [hk0, hk1, Bool.eq_false_iff.2 hk2, decide_eq_true hk3, decide_eq_true hk4, decide_eq_true hk5, Bool.eq_false_iff.2 hk6, hsg9, hpv9, hau9, Bool.true_and, Bool.and_true, Bool.false_and, Bool.and_false, Bool.true_or, Bool.or_true, Bool.false_or, Bool.or_false, Bool.not_true, Bool.not_false]
                              refine c_seq fun K48 hK48 => ?_
                              refine c_region ?_
                              refine sv (o_as rfl) rfl ?_
                              refine l_nil ?_
                              refine e_K (hK48 _ _ _ _ ?_)
                              refine c_ret ?_
                              refine e_then (by simp) ?_
                              exact ret1 rfl rfl ⟨by rw [EV.chk_no hfew hF], E⟩
                          · skip
                            refine c_region ?_
                            refine sv (o_mv rfl) rfl ?_
                            refine sv (o_not rfl) rfl ?_
                            refine sv (o_mv rfl) rfl ?_
                            refine sg rfl ((show (!e.names) = false by rw [hk0]; rfl)) (o_mv rfl) rfl ?_
                            refine sg rfl ((show (!e.names) = false by rw [hk0]; rfl)) (o_not rfl) rfl ?_
                            refine sv (o_pickF ((show (!e.names) = false by rw [hk0]; rfl)) rfl rfl) rfl ?_
                            refine sv (o_mv rfl) rfl ?_
                            refine sg rfl ((show (!e.nums) = false by rw [hk1]; rfl)) (o_fa0 fd33_3 rfl) rfl ?_
                            refine sg rfl ((show (!e.nums) = false by rw [hk1]; rfl)) (o_ld sc4 rfl (Bg1.cell rfl)) rfl ?_
                            refine sg rfl ((show (!e.nums) = false by rw [hk1]; rfl)) (o_not rfl) rfl ?_
                            refine sg rfl ((show (!e.nums) = false by rw [hk1]; rfl)) (o_mv rfl) rfl ?_
                            refine sg rfl ((show (!e.st) = true by rw [Bool.eq_false_iff.2 hk2]; rfl)) (o_fa0 fd33_4 rfl) rfl ?_
                            refine sg rfl ((show (!e.st) = true by rw [Bool.eq_false_iff.2 hk2]; rfl)) (o_ld sc9 rfl (Bg1.cell rfl)) rfl ?_
                            refine sg rfl ((show (!e.st) = true by rw [Bool.eq_false_iff.2 hk2]; rfl)) (o_sne rfl rfl) rfl ?_
                            refine sg rfl ((show (!e.nums) = false by rw [hk1]; rfl)) (o_pickT ((show (!e.st) = true by rw [Bool.eq_false_iff.2 hk2]; rfl)) rfl rfl) rfl ?_
                            refine sv (o_pickF ((show (!e.nums) = false by rw [hk1]; rfl)) rfl rfl) rfl ?_
                            refine sv (o_mv rfl) rfl ?_
                            refine sg rfl ((show decide (e.key ≠ []) = false from decide_eq_false (fun h_ => h_ hk3))) (o_fa0 fd33_5 rfl) rfl ?_
                            refine sg rfl ((show decide (e.key ≠ []) = false from decide_eq_false (fun h_ => h_ hk3))) (o_fa fd25_0 rfl) rfl ?_
                            refine sg rfl ((show decide (e.key ≠ []) = false from decide_eq_false (fun h_ => h_ hk3))) (o_ld sc3 rfl (Bg1.cell rfl)) rfl ?_
                            refine sg rfl ((show decide (e.key ≠ []) = false from decide_eq_false (fun h_ => h_ hk3))) (o_neq rfl rfl) rfl ?_
                            refine sv (o_pickF ((show decide (e.key ≠ []) = false from decide_eq_false (fun h_ => h_ hk3))) rfl rfl) rfl ?_
                            refine sv (o_mv rfl) rfl ?_
                            refine sg rfl ((show decide (e.con.kind ≠ 5) = false from decide_eq_false (fun h_ => h_ hk4))) (o_mv rfl) rfl ?_
                            refine sg rfl ((show decide (e.con.kind ≠ 5) = false from decide_eq_false (fun h_ => h_ hk4))) (o_neq rfl rfl) rfl ?_
                            refine sv (o_pickF ((show decide (e.con.kind ≠ 5) = false from decide_eq_false (fun h_ => h_ hk4))) rfl rfl) rfl ?_
                            refine sv (o_mv rfl) rfl ?_
                            refine sn rfl (fun e_ => absurd (((show decide (ern (e.con.wr 0 []) ≠ 0) = true from decide_eq_true hk5)).symm.trans e_) (by decide)) rfl ?_
                            refine sn rfl (fun e_ => absurd (((show decide (ern (e.con.wr 0 []) ≠ 0) = true from decide_eq_true hk5)).symm.trans e_) (by decide)) rfl ?_
                            refine sn rfl (fun e_ => absurd (((show decide (ern (e.con.wr 0 []) ≠ 0) = true from decide_eq_true hk5)).symm.trans e_) (by decide)) rfl ?_
                            refine sn rfl (fun e_ => absurd (((show decide (ern (e.con.wr 0 []) ≠ 0) = true from decide_eq_true hk5)).symm.trans e_) (by decide)) rfl ?_
                            refine sv (o_pickT ((show decide (ern (e.con.wr 0 []) ≠ 0) = true from decide_eq_true hk5)) rfl rfl) rfl ?_
                            refine l_nil ?_
                            refine e_K (hK42 _ _ _ _ ?_)
                            refine c_true rfl ?_
                            have hF : e.fine = false := by rw [EV.fine_eq]; simp only [hk0, hk1, Bool.eq_false_iff.2 hk2, decide_eq_true hk3, decide_eq_true hk4, decide_eq_false hk5, hsg9, hpv9, hau9, Bool.true_and, Bool.and_true, Bool.false_and, Bool.and_false, Bool.true_or, Bool.or_true, Bool.false_or, Bool.or_false, Bool.not_true, Bool.not_false]
                            refine c_seq fun K49 hK49 => ?_
                            refine c_region ?_
                            refine sv (o_as rfl) rfl ?_
                            refine l_nil ?_
                            refine e_K (hK49 _ _ _ _ ?_)
                            refine c_ret ?_
                            refine e_then (by simp) ?_
                            exact ret1 rfl rfl ⟨by rw [EV.chk_no hfew hF], E⟩
                        · skip
                          refine c_region ?_
                          refine sv (o_mv rfl) rfl ?_
                          refine sv (o_not rfl) rfl ?_
                          refine sv (o_mv rfl) rfl ?_
                          refine sg rfl ((show (!e.names) = false by rw [hk0]; rfl)) (o_mv rfl) rfl ?_
                          refine sg rfl ((show (!e.names) = false by rw [hk0]; rfl)) (o_not rfl) rfl ?_
                          refine sv (o_pickF ((show (!e.names) = false by rw [hk0]; rfl)) rfl rfl) rfl ?_
                          refine sv (o_mv rfl) rfl ?_
                          refine sg rfl ((show (!e.nums) = false by rw [hk1]; rfl)) (o_fa0 fd33_3 rfl) rfl ?_
                          refine sg rfl ((show (!e.nums) = false by rw [hk1]; rfl)) (o_ld sc4 rfl (Bg1.cell rfl)) rfl ?_
                          refine sg rfl ((show (!e.nums) = false by rw [hk1]; rfl)) (o_not rfl) rfl ?_
                          refine sg rfl ((show (!e.nums) = false by rw [hk1]; rfl)) (o_mv rfl) rfl ?_
                          refine sg rfl ((show (!e.st) = true by rw [Bool.eq_false_iff.2 hk2]; rfl)) (o_fa0 fd33_4 rfl) rfl ?_
                          refine sg rfl ((show (!e.st) = true by rw [Bool.eq_false_iff.2 hk2]; rfl)) (o_ld sc9 rfl (Bg1.cell rfl)) rfl ?_
                          refine sg rfl ((show (!e.st) = true by rw [Bool.eq_false_iff.2 hk2]; rfl)) (o_sne rfl rfl) rfl ?_
                          refine sg rfl ((show (!e.nums) = false by rw [hk1]; rfl)) (o_pickT ((show (!e.st) = true by rw [Bool.eq_false_iff.2 hk2]; rfl)) rfl rfl) rfl ?_
                          refine sv (o_pickF ((show (!e.nums) = false by rw [hk1]; rfl)) rfl rfl) rfl ?_
                          refine sv (o_mv rfl) rfl ?_
                          refine sg rfl ((show decide (e.key ≠ []) = false from decide_eq_false (fun h_ => h_ hk3))) (o_fa0 fd33_5 rfl) rfl ?_
                          refine sg rfl ((show decide (e.key ≠ []) = false from decide_eq_false (fun h_ => h_ hk3))) (o_fa fd25_0 rfl) rfl ?_
                          refine sg rfl ((show decide (e.key ≠ []) = false from decide_eq_false (fun h_ => h_ hk3))) (o_ld sc3 rfl (Bg1.cell rfl)) rfl ?_
                          refine sg rfl ((show decide (e.key ≠ []) = false from decide_eq_false (fun h_ => h_ hk3))) (o_neq rfl rfl) rfl ?_
                          refine sv (o_pickF ((show decide (e.key ≠ []) = false from decide_eq_false (fun h_ => h_ hk3))) rfl rfl) rfl ?_
                          refine sv (o_mv rfl) rfl ?_
                          refine sn rfl (fun e_ => absurd (((show decide (e.con.kind ≠ 5) = true from decide_eq_true hk4)).symm.trans e_) (by decide)) rfl ?_
                          refine sn rfl (fun e_ => absurd (((show decide (e.con.kind ≠ 5) = true from decide_eq_true hk4)).symm.trans e_) (by decide)) rfl ?_
                          refine sv (o_pickT ((show decide (e.con.kind ≠ 5) = true from decide_eq_true hk4)) rfl rfl) rfl ?_
                          refine sv (o_mv rfl) rfl ?_
                          refine sn rfl (fun e_ => absurd ((rfl).symm.trans e_) (by decide)) rfl ?_
                          refine sn rfl (fun e_ => absurd ((rfl).symm.trans e_) (by decide)) rfl ?_
                          refine sn rfl (fun e_ => absurd ((rfl).symm.trans e_) (by decide)) rfl ?_
                          refine sn rfl (fun e_ => absurd ((rfl).symm.trans e_) (by decide)) rfl ?_
                          refine sv (o_pickT (rfl) rfl rfl) rfl ?_
                          refine l_nil ?_
                          refine e_K (hK42 _ _ _ _ ?_)
                          refine c_true rfl ?_
                          have hF : e.fine = false := by rw [EV.fine_eq]; simp only [hk0, hk1, Bool.eq_false_iff.2 hk2, decide_eq_true hk3, decide_eq_false hk4, hsg9, hpv9, hau9, Bool.true_and, Bool.and_true, Bool.false_and, Bool.and_false, Bool.true_or, Bool.or_true, Bool.false_or, Bool.or_false, Bool.not_true, Bool.not_false]
                          refine c_seq fun K50 hK50 => ?_
                          refine c_region ?_
                          refine sv (o_as rfl) rfl ?_
                          refine l_nil ?_
                          refine e_K (hK50 _ _ _ _ ?_)
                          refine c_ret ?_
                          refine e_then (by simp) ?_
                          exact ret1 rfl rfl ⟨by rw [EV.chk_no hfew hF], E⟩
                      · skip
                        refine c_region ?_
                        refine sv (o_mv rfl) rfl ?_
                        refine sv (o_not rfl) rfl ?_
                        refine sv (o_mv rfl) rfl ?_
                        refine sg rfl ((show (!e.names) = false by rw [hk0]; rfl)) (o_mv rfl) rfl ?_
                        refine sg rfl ((show (!e.names) = false by rw [hk0]; rfl)) (o_not rfl) rfl ?_
                        refine sv (o_pickF ((show (!e.names) = false by rw [hk0]; rfl)) rfl rfl) rfl ?_
                        refine sv (o_mv rfl) rfl ?_
                        refine sg rfl ((show (!e.nums) = false by rw [hk1]; rfl)) (o_fa0 fd33_3 rfl) rfl ?_
                        refine sg rfl ((show (!e.nums) = false by rw [hk1]; rfl)) (o_ld sc4 rfl (Bg1.cell rfl)) rfl ?_
                        refine sg rfl ((show (!e.nums) = false by rw [hk1]; rfl)) (o_not rfl) rfl ?_
                        refine sg rfl ((show (!e.nums) = false by rw [hk1]; rfl)) (o_mv rfl) rfl ?_
                        refine sg rfl ((show (!e.st) = true by rw [Bool.eq_false_iff.2 hk2]; rfl)) (o_fa0 fd33_4 rfl) rfl ?_
                        refine sg rfl ((show (!e.st) = true by rw [Bool.eq_false_iff.2 hk2]; rfl)) (o_ld sc9 rfl (Bg1.cell rfl)) rfl ?_
                        refine sg rfl ((show (!e.st) = true by rw [Bool.eq_false_iff.2 hk2]; rfl)) (o_sne rfl rfl) rfl ?_
                        refine sg rfl ((show (!e.nums) = false by rw [hk1]; rfl)) (o_pickT ((show (!e.st) = true by rw [Bool.eq_false_iff.2 hk2]; rfl)) rfl rfl) rfl ?_
                        refine sv (o_pickF ((show (!e.nums) = false by rw [hk1]; rfl)) rfl rfl) rfl ?_
                        refine sv (o_mv rfl) rfl ?_
                        refine sn rfl (fun e_ => absurd (((show decide (e.key ≠ []) = true from decide_eq_true hk3)).symm.trans e_) (by decide)) rfl ?_
                        refine sn rfl (fun e_ => absurd (((show decide (e.key ≠ []) = true from decide_eq_true hk3)).symm.trans e_) (by decide)) rfl ?_
                        refine sn rfl (fun e_ => absurd (((show decide (e.key ≠ []) = true from decide_eq_true hk3)).symm.trans e_) (by decide)) rfl ?_
                        refine sn rfl (fun e_ => absurd (((show decide (e.key ≠ []) = true from decide_eq_true hk3)).symm.trans e_) (by decide)) rfl ?_
                        refine sv (o_pickT ((show decide (e.key ≠ []) = true from decide_eq_true hk3)) rfl rfl) rfl ?_
                        refine sv (o_mv rfl) rfl ?_
                        refine sn rfl (fun e_ => absurd ((rfl).symm.trans e_) (by decide)) rfl ?_
                        refine sn rfl (fun e_ => absurd ((rfl).symm.trans e_) (by decide)) rfl ?_
                        refine sv (o_pickT (rfl) rfl rfl) rfl ?_
                        refine sv (o_mv rfl) rfl ?_
                        refine sn rfl (fun e_ => absurd ((rfl).symm.trans e_) (by decide)) rfl ?_
                        refine sn rfl (fun e_ => absurd ((rfl).symm.trans e_) (by decide)) rfl ?_
                        refine sn rfl (fun e_ => absurd ((rfl).symm.trans e_) (by decide)) rfl ?_
                        refine sn rfl (fun e_ => absurd ((rfl).symm.trans e_) (by decide)) rfl ?_
                        refine sv (o_pickT (rfl) rfl rfl) rfl ?_
                        refine l_nil ?_
                        refine e_K (hK42 _ _ _ _ ?_)
                        refine c_true rfl ?_
                        have hF : e.fine = false := by rw [EV.fine_eq]; simp only [hk0, hk1, Bool.eq_false_iff.2 hk2, decide_eq_false hk3, hsg9, hpv9, hau9, Bool.true_and, Bool.and_true, Bool.false_and, Bool.and_false, Bool.true_or, Bool.or_true, Bool.false_or, Bool.or_false, Bool.not_true, Bool.not_false]
                        refine c_seq fun K51 hK51 => ?_
                        refine c_region ?_
                        refine sv (o_as rfl) rfl ?_
                        refine l_nil ?_
                        refine e_K (hK51 _ _ _ _ ?_)
                        refine c_ret ?_
                        refine e_then (by simp) ?_
                        exact ret1 rfl rfl ⟨by rw [EV.chk_no hfew hF], E⟩
                  · skip
                    refine c_region ?_
                    refine sv (o_mv rfl) rfl ?_
                    refine sv (o_not rfl) rfl ?_
                    refine sv (o_mv rfl) rfl ?_
                    refine sg rfl ((show (!e.names) = false by rw [hk0]; rfl)) (o_mv rfl) rfl ?_
                    refine sg rfl ((show (!e.names) = false by rw [hk0]; rfl)) (o_not rfl) rfl ?_
                    refine sv (o_pickF ((show (!e.names) = false by rw [hk0]; rfl)) rfl rfl) rfl ?_
                    refine sv (o_mv rfl) rfl ?_
                    refine sn rfl (fun e_ => absurd (((show (!e.nums) = true by rw [Bool.eq_false_iff.2 hk1]; rfl)).symm.trans e_) (by decide)) rfl ?_
                    refine sn rfl (fun e_ => absurd (((show (!e.nums) = true by rw [Bool.eq_false_iff.2 hk1]; rfl)).symm.trans e_) (by decide)) rfl ?_
                    refine sn rfl (fun e_ => absurd (((show (!e.nums) = true by rw [Bool.eq_false_iff.2 hk1]; rfl)).symm.trans e_) (by decide)) rfl ?_
                    refine sn rfl (fun e_ => absurd (((show (!e.nums) = true by rw [Bool.eq_false_iff.2 hk1]; rfl)).symm.trans e_) (by decide)) rfl ?_
                    refine snu rfl rfl rfl ?_
                    refine snu rfl rfl rfl ?_
                    refine snu rfl rfl rfl ?_
                    refine sn rfl (fun e_ => absurd (((show (!e.nums) = true by rw [Bool.eq_false_iff.2 hk1]; rfl)).symm.trans e_) (by decide)) rfl ?_
                    refine sv (o_pickT ((show (!e.nums) = true by rw [Bool.eq_false_iff.2 hk1]; rfl)) rfl rfl) rfl ?_
                    refine sv (o_mv rfl) rfl ?_
                    refine sn rfl (fun e_ => absurd ((rfl).symm.trans e_) (by decide)) rfl ?_
                    refine sn rfl (fun e_ => absurd ((rfl).symm.trans e_) (by decide)) rfl ?_
                    refine sn rfl (fun e_ => absurd ((rfl).symm.trans e_) (by decide)) rfl ?_
                    refine sn rfl (fun e_ => absurd ((rfl).symm.trans e_) (by decide)) rfl ?_
                    refine sv (o_pickT (rfl) rfl rfl) rfl ?_
                    refine sv (o_mv rfl) rfl ?_
                    refine sn rfl (fun e_ => absurd ((rfl).symm.trans e_) (by decide)) rfl ?_
                    refine sn rfl (fun e_ => absurd ((rfl).symm.trans e_) (by decide)) rfl ?_
                    refine sv (o_pickT (rfl) rfl rfl) rfl ?_
                    refine sv (o_mv rfl) rfl ?_
                    refine sn rfl (fun e_ => absurd ((rfl).symm.trans e_) (by decide)) rfl ?_
                    refine sn rfl (fun e_ => absurd ((rfl).symm.trans e_) (by decide)) rfl ?_
                    refine sn rfl (fun e_ => absurd ((rfl).symm.trans e_) (by decide)) rfl ?_
                    refine sn rfl (fun e_ => absurd ((rfl).symm.trans e_) (by decide)) rfl ?_
                    refine sv (o_pickT (rfl) rfl rfl) rfl ?_
                    refine l_nil ?_
                    refine e_K (hK42 _ _ _ _ ?_)
                    refine c_true rfl ?_
                    have hF : e.fine = false := by rw [EV.fine_eq]; simp only [hk0, Bool.eq_false_iff.2 hk1, hsg9, hpv9, hau9, Bool.true_and, Bool.and_true, Bool.false_and, Bool.and_false, Bool.true_or, Bool.or_true, Bool.false_or, Bool.or_false, Bool.not_true, Bool.not_false]
                    refine c_seq fun K52 hK52 => ?_
                    refine c_region ?_
                    refine sv (o_as rfl) rfl ?_
                    refine l_nil ?_
                    refine e_K (hK52 _ _ _ _ ?_)
                    refine c_ret ?_
                    refine e_then (by simp) ?_
                    exact ret1 rfl rfl ⟨by rw [EV.chk_no hfew hF], E⟩
                · skip
                  refine c_region ?_
                  refine sv (o_mv rfl) rfl ?_
                  refine sv (o_not rfl) rfl ?_
                  refine sv (o_mv rfl) rfl ?_
                  refine sn rfl (fun e_ => absurd (((show (!e.names) = true by rw [Bool.eq_false_iff.2 hk0]; rfl)).symm.trans e_) (by decide)) rfl ?_
                  refine sn rfl (fun e_ => absurd (((show (!e.names) = true by rw [Bool.eq_false_iff.2 hk0]; rfl)).symm.trans e_) (by decide)) rfl ?_
                  refine sv (o_pickT ((show (!e.names) = true by rw [Bool.eq_false_iff.2 hk0]; rfl)) rfl rfl) rfl ?_
                  refine sv (o_mv rfl) rfl ?_
                  refine sn rfl (fun e_ => absurd ((rfl).symm.trans e_) (by decide)) rfl ?_
                  refine sn rfl (fun e_ => absurd ((rfl).symm.trans e_) (by decide)) rfl ?_
                  refine sn rfl (fun e_ => absurd ((rfl).symm.trans e_) (by decide)) rfl ?_
                  refine sn rfl (fun e_ => absurd ((rfl).symm.trans e_) (by decide)) rfl ?_
                  refine snu rfl rfl rfl ?_
                  refine snu rfl rfl rfl ?_
                  refine snu rfl rfl rfl ?_
                  refine sn rfl (fun e_ => absurd ((rfl).symm.trans e_) (by decide)) rfl ?_
                  refine sv (o_pickT (rfl) rfl rfl) rfl ?_
                  refine sv (o_mv rfl) rfl ?_
                  refine sn rfl (fun e_ => absurd ((rfl).symm.trans e_) (by decide)) rfl ?_
                  refine sn rfl (fun e_ => absurd ((rfl).symm.trans e_) (by decide)) rfl ?_
                  refine sn rfl (fun e_ => absurd ((rfl).symm.trans e_) (by decide)) rfl ?_
                  refine sn rfl (fun e_ => absurd ((rfl).symm.trans e_) (by decide)) rfl ?_
                  refine sv (o_pickT (rfl) rfl rfl) rfl ?_
                  refine sv (o_mv rfl) rfl ?_
                  refine sn rfl (fun e_ => absurd ((rfl).symm.trans e_) (by decide)) rfl ?_
                  refine sn rfl (fun e_ => absurd ((rfl).symm.trans e_) (by decide)) rfl ?_
                  refine sv (o_pickT (rfl) rfl rfl) rfl ?_
                  refine sv (o_mv rfl) rfl ?_
                  refine sn rfl (fun e_ => absurd ((rfl).symm.trans e_) (by decide)) rfl ?_
                  refine sn rfl (fun e_ => absurd ((rfl).symm.trans e_) (by decide)) rfl ?_
                  refine sn rfl (fun e_ => absurd ((rfl).symm.trans e_) (by decide)) rfl ?_
                  refine sn rfl (fun e_ => absurd ((rfl).symm.trans e_) (by decide)) rfl ?_
                  refine sv (o_pickT (rfl) rfl rfl) rfl ?_
                  refine l_nil ?_
                  refine e_K (hK42 _ _ _ _ ?_)
                  refine c_true rfl ?_
                  have hF : e.fine = false := by rw [EV.fine_eq]; simp only [Bool.eq_false_iff.2 hk0, hsg9, hpv9, hau9, Bool.true_and, Bool.and_true, Bool.false_and, Bool.and_false, Bool.true_or, Bool.or_true, Bool.false_or, Bool.or_false, Bool.not_true, Bool.not_false]
                  refine c_seq fun K53 hK53 => ?_
                  refine c_region ?_
                  refine sv (o_as rfl) rfl ?_
                  refine l_nil ?_
                  refine e_K (hK53 _ _ _ _ ?_)
                  refine c_ret ?_
                  refine e_then (by simp) ?_
                  exact ret1 rfl rfl ⟨by rw [EV.chk_no hfew hF], E⟩
              by_cases hk0 : 0 ≤ e.dep
              · skip
                by_cases hk1 : e.dep < 9007199254740992
                · skip
                  by_cases hk2 : 0 ≤ e.time
                  · skip
                    by_cases hk3 : e.time < 9007199254740992
                    · skip
                      refine c_region ?_
                      refine sv (o_fa0 fd33_8 rfl) rfl ?_
                      refine sv (o_ld sc3 rfl (Bg1.cell rfl)) rfl ?_
                      refine sv (o_geq rfl rfl) rfl ?_
                      refine sv (o_mv rfl) rfl ?_
                      refine sg rfl (decide_eq_true hk0) (o_fa0 fd33_8 rfl) rfl ?_
                      refine sg rfl (decide_eq_true hk0) (o_ld sc3 rfl (Bg1.cell rfl)) rfl ?_
                      refine sg rfl (decide_eq_true hk0) (o_lss rfl rfl) rfl ?_
                      refine sv (o_pickT (decide_eq_true hk0) rfl rfl) rfl ?_
                      refine sv (o_mv rfl) rfl ?_
                      refine sg rfl (decide_eq_true hk1) (o_fa0 fd33_9 rfl) rfl ?_
                      refine sg rfl (decide_eq_true hk1) (o_ld sc3 rfl (Bg1.cell rfl)) rfl ?_
                      refine sg rfl (decide_eq_true hk1) (o_geq rfl rfl) rfl ?_
                      refine sv (o_pickT (decide_eq_true hk1) rfl rfl) rfl ?_
                      refine sv (o_mv rfl) rfl ?_
                      refine sg rfl (decide_eq_true hk2) (o_fa0 fd33_9 rfl) rfl ?_
                      refine sg rfl (decide_eq_true hk2) (o_ld sc3 rfl (Bg1.cell rfl)) rfl ?_
                      refine sg rfl (decide_eq_true hk2) (o_lss rfl rfl) rfl ?_
                      refine sv (o_pickT (decide_eq_true hk2) rfl rfl) rfl ?_
                      refine sv ((o_as rfl).to (v' := .bool e.nums) (congrArg Value.bool (by simp only [EV.nums, numB, nd1, nd2, decide_eq_true hk0, decide_eq_true hk1, decide_eq_true hk2, decide_eq_true hk3, Bool.true_and, Bool.and_true, Bool.false_and, Bool.and_false, Bool.true_or, Bool.or_true, Bool.false_or, Bool.or_false, Bool.not_true, Bool.not_false]))) rfl ?_
                      refine l_nil ?_
                      refine WE.sub (l' := [(1, _), (11, _), (12, _), (13, _)]) ⟨rfl, rfl, rfl, rfl, trivial⟩ (e_K (J40  w21 ⟨Bg1, E⟩))
                    · skip
                      refine c_region ?_
                      refine sv (o_fa0 fd33_8 rfl) rfl ?_
                      refine sv (o_ld sc3 rfl (Bg1.cell rfl)) rfl ?_
                      refine sv (o_geq rfl rfl) rfl ?_
                      refine sv (o_mv rfl) rfl ?_
                      refine sg rfl (decide_eq_true hk0) (o_fa0 fd33_8 rfl) rfl ?_
                      refine sg rfl (decide_eq_true hk0) (o_ld sc3 rfl (Bg1.cell rfl)) rfl ?_
                      refine sg rfl (decide_eq_true hk0) (o_lss rfl rfl) rfl ?_
                      refine sv (o_pickT (decide_eq_true hk0) rfl rfl) rfl ?_
                      refine sv (o_mv rfl) rfl ?_
                      refine sg rfl (decide_eq_true hk1) (o_fa0 fd33_9 rfl) rfl ?_
                      refine sg rfl (decide_eq_true hk1) (o_ld sc3 rfl (Bg1.cell rfl)) rfl ?_
                      refine sg rfl (decide_eq_true hk1) (o_geq rfl rfl) rfl ?_
                      refine sv (o_pickT (decide_eq_true hk1) rfl rfl) rfl ?_
                      refine sv (o_mv rfl) rfl ?_
                      refine sg rfl (decide_eq_true hk2) (o_fa0 fd33_9 rfl) rfl ?_
                      refine sg rfl (decide_eq_true hk2) (o_ld sc3 rfl (Bg1.cell rfl)) rfl ?_
                      refine sg rfl (decide_eq_true hk2) (o_lss rfl rfl) rfl ?_
                      refine sv (o_pickT (decide_eq_true hk2) rfl rfl) rfl ?_
                      refine sv ((o_as rfl).to (v' := .bool e.nums) (congrArg Value.bool (by simp only [EV.nums, numB, nd1, nd2, decide_eq_true hk0, decide_eq_true hk1, decide_eq_true hk2, decide_eq_false hk3, Bool.true_and, Bool.and_true, Bool.false_and, Bool.and_false, Bool.true_or, Bool.or_true, Bool.false_or, Bool.or_false, Bool.not_true, Bool.not_false]))) rfl ?_
                      refine l_nil ?_
                      refine WE.sub (l' := [(1, _), (11, _), (12, _), (13, _)]) ⟨rfl, rfl, rfl, rfl, trivial⟩ (e_K (J40  w21 ⟨Bg1, E⟩))
                  · skip
                    refine c_region ?_
                    refine sv (o_fa0 fd33_8 rfl) rfl ?_
                    refine sv (o_ld sc3 rfl (Bg1.cell rfl)) rfl ?_
                    refine sv (o_geq rfl rfl) rfl ?_
                    refine sv (o_mv rfl) rfl ?_
                    refine sg rfl (decide_eq_true hk0) (o_fa0 fd33_8 rfl) rfl ?_
                    refine sg rfl (decide_eq_true hk0) (o_ld sc3 rfl (Bg1.cell rfl)) rfl ?_
                    refine sg rfl (decide_eq_true hk0) (o_lss rfl rfl) rfl ?_
                    refine sv (o_pickT (decide_eq_true hk0) rfl rfl) rfl ?_
                    refine sv (o_mv rfl) rfl ?_
                    refine sg rfl (decide_eq_true hk1) (o_fa0 fd33_9 rfl) rfl ?_
                    refine sg rfl (decide_eq_true hk1) (o_ld sc3 rfl (Bg1.cell rfl)) rfl ?_
                    refine sg rfl (decide_eq_true hk1) (o_geq rfl rfl) rfl ?_
                    refine sv (o_pickT (decide_eq_true hk1) rfl rfl) rfl ?_
                    refine sv (o_mv rfl) rfl ?_
                    refine sn rfl (fun e_ => absurd ((decide_eq_false hk2).symm.trans e_) (by decide)) rfl ?_
                    refine sn rfl (fun e_ => absurd ((decide_eq_false hk2).symm.trans e_) (by decide)) rfl ?_
                    refine sn rfl (fun e_ => absurd ((decide_eq_false hk2).symm.trans e_) (by decide)) rfl ?_
                    refine sv (o_pickF (decide_eq_false hk2) rfl rfl) rfl ?_
                    refine sv ((o_as rfl).to (v' := .bool e.nums) (congrArg Value.bool (by simp only [EV.nums, numB, nd1, nd2, decide_eq_true hk0, decide_eq_true hk1, decide_eq_false hk2, Bool.true_and, Bool.and_true, Bool.false_and, Bool.and_false, Bool.true_or, Bool.or_true, Bool.false_or, Bool.or_false, Bool.not_true, Bool.not_false]))) rfl ?_
                    refine l_nil ?_
                    refine WE.sub (l' := [(1, _), (11, _), (12, _), (13, _)]) ⟨rfl, rfl, rfl, rfl, trivial⟩ (e_K (J40  w21 ⟨Bg1, E⟩))
                · skip
                  refine c_region ?_
                  refine sv (o_fa0 fd33_8 rfl) rfl ?_
                  refine sv (o_ld sc3 rfl (Bg1.cell rfl)) rfl ?_
                  refine sv (o_geq rfl rfl) rfl ?_
                  refine sv (o_mv rfl) rfl ?_
                  refine sg rfl (decide_eq_true hk0) (o_fa0 fd33_8 rfl) rfl ?_
                  refine sg rfl (decide_eq_true hk0) (o_ld sc3 rfl (Bg1.cell rfl)) rfl ?_
                  refine sg rfl (decide_eq_true hk0) (o_lss rfl rfl) rfl ?_
                  refine sv (o_pickT (decide_eq_true hk0) rfl rfl) rfl ?_
                  refine sv (o_mv rfl) rfl ?_
                  refine sn rfl (fun e_ => absurd ((decide_eq_false hk1).symm.trans e_) (by decide)) rfl ?_
                  refine sn rfl (fun e_ => absurd ((decide_eq_false hk1).symm.trans e_) (by decide)) rfl ?_
                  refine sn rfl (fun e_ => absurd ((decide_eq_false hk1).symm.trans e_) (by decide)) rfl ?_
                  refine sv (o_pickF (decide_eq_false hk1) rfl rfl) rfl ?_
                  refine sv (o_mv rfl) rfl ?_
                  refine sn rfl (fun e_ => absurd ((rfl).symm.trans e_) (by decide)) rfl ?_
                  refine sn rfl (fun e_ => absurd ((rfl).symm.trans e_) (by decide)) rfl ?_
                  refine sn rfl (fun e_ => absurd ((rfl).symm.trans e_) (by decide)) rfl ?_
                  refine sv (o_pickF (rfl) rfl rfl) rfl ?_
                  refine sv ((o_as rfl).to (v' := .bool e.nums) (congrArg Value.bool (by simp only [EV.nums, numB, nd1, nd2, decide_eq_true hk0, decide_eq_false hk1, Bool.true_and, Bool.and_true, Bool.false_and, Bool.and_false, Bool.true_or, Bool.or_true, Bool.false_or, Bool.or_false, Bool.not_true, Bool.not_false]))) rfl ?_
                  refine l_nil ?_
                  refine WE.sub (l' := [(1, _), (11, _), (12, _), (13, _)]) ⟨rfl, rfl, rfl, rfl, trivial⟩ (e_K (J40  w21 ⟨Bg1, E⟩))
              · skip
                refine c_region ?_
                refine sv (o_fa0 fd33_8 rfl) rfl ?_
                refine sv (o_ld sc3 rfl (Bg1.cell rfl)) rfl ?_
                refine sv (o_geq rfl rfl) rfl ?_
                refine sv (o_mv rfl) rfl ?_
                refine sn rfl (fun e_ => absurd ((decide_eq_false hk0).symm.trans e_) (by decide)) rfl ?_
                refine sn rfl (fun e_ => absurd ((decide_eq_false hk0).symm.trans e_) (by decide)) rfl ?_
                refine sn rfl (fun e_ => absurd ((decide_eq_false hk0).symm.trans e_) (by decide)) rfl ?_
                refine sv (o_pickF (decide_eq_false hk0) rfl rfl) rfl ?_
                refine sv (o_mv rfl) rfl ?_
                refine sn rfl (fun e_ => absurd ((rfl).symm.trans e_) (by decide)) rfl ?_
                refine sn rfl (fun e_ => absurd ((rfl).symm.trans e_) (by decide)) rfl ?_
                refine sn rfl (fun e_ => absurd ((rfl).symm.trans e_) (by decide)) rfl ?_
                refine sv (o_pickF (rfl) rfl rfl) rfl ?_
                refine sv (o_mv rfl) rfl ?_
                refine sn rfl (fun e_ => absurd ((rfl).symm.trans e_) (by decide)) rfl ?_
                refine sn rfl (fun e_ => absurd ((rfl).symm.trans e_) (by decide)) rfl ?_
                refine sn rfl (fun e_ => absurd ((rfl).symm.trans e_) (by decide)) rfl ?_
                refine sv (o_pickF (rfl) rfl rfl) rfl ?_
                refine sv ((o_as rfl).to (v' := .bool e.nums) (congrArg Value.bool (by simp only [EV.nums, numB, nd1, nd2, decide_eq_false hk0, Bool.true_and, Bool.and_true, Bool.false_and, Bool.and_false, Bool.true_or, Bool.or_true, Bool.false_or, Bool.or_false, Bool.not_true, Bool.not_false]))) rfl ?_
                refine l_nil ?_
                refine WE.sub (l' := [(1, _), (11, _), (12, _), (13, _)]) ⟨rfl, rfl, rfl, rfl, trivial⟩ (e_K (J40  w21 ⟨Bg1, E⟩))
            by_cases hk0 : (namedB 33 qRoom e.room) = true
            · skip
              by_cases hk1 : (namedB 64 qUser e.snd) = true
              · skip
                by_cases hk2 : e.ty ≠ []
                · skip
                  by_cases hk3 : (shortB e.ty) = true
                  · skip
                    by_cases hk4 : (shortB e.key) = true
                    · skip
                      refine c_region ?_
                      refine sv (o_fa0 fd33_0 rfl) rfl ?_
                      refine sv (o_ld sc9 rfl (Bg1.cell rfl)) rfl ?_
                      refine sc (o_call ent35 rfl) (c_roomR _ e.room ho1) rfl fun v_ w27 h_ => ?_
                      obtain ⟨rfl, E_⟩ := h_
                      replace Bg1 := Bg1.mod0 E_
                      replace E := E.then E_
                      refine sv (o_mv rfl) rfl ?_
                      refine sg rfl (hk0) (o_fa0 fd33_1 rfl) rfl ?_
                      refine sg rfl (hk0) (o_ld sc9 rfl (Bg1.cell rfl)) rfl ?_
                      refine sgc rfl (hk0) (o_call ent36 rfl) (c_userR _ e.snd ho2) rfl fun v_ w28 h_ => ?_
                      obtain ⟨rfl, E_⟩ := h_
                      replace Bg1 := Bg1.mod0 E_
                      replace E := E.then E_
                      refine sv (o_pickT (hk0) rfl rfl) rfl ?_
                      refine sv (o_mv rfl) rfl ?_
                      refine sg rfl (hk1) (o_fa0 fd33_2 rfl) rfl ?_
                      refine sg rfl (hk1) (o_ld sc9 rfl (Bg1.cell rfl)) rfl ?_
                      refine sg rfl (hk1) (o_sne rfl rfl) rfl ?_
                      refine sv (o_pickT (hk1) rfl rfl) rfl ?_
                      refine sv (o_mv rfl) rfl ?_
                      refine sg rfl (decide_eq_true hk2) (o_fa0 fd33_2 rfl) rfl ?_
                      refine sg rfl (decide_eq_true hk2) (o_ld sc9 rfl (Bg1.cell rfl)) rfl ?_
                      refine sgc rfl (decide_eq_true hk2) (o_call ent37 rfl) (c_few _ _) rfl fun v_ w29 h_ => ?_
                      obtain ⟨rfl, E_⟩ := h_
                      replace Bg1 := Bg1.mod0 E_
                      replace E := E.then E_
                      refine sv (o_pickT (decide_eq_true hk2) rfl rfl) rfl ?_
                      refine sv (o_mv rfl) rfl ?_
                      refine sg rfl (hk3) (o_fa0 fd33_4 rfl) rfl ?_
                      refine sg rfl (hk3) (o_ld sc9 rfl (Bg1.cell rfl)) rfl ?_
                      refine sgc rfl (hk3) (o_call ent37 rfl) (c_few _ _) rfl fun v_ w30 h_ => ?_
                      obtain ⟨rfl, E_⟩ := h_
                      replace Bg1 := Bg1.mod0 E_
                      replace E := E.then E_
                      refine sv (o_pickT (hk3) rfl rfl) rfl ?_
                      refine sv ((o_as rfl).to (v' := .bool e.names) (congrArg Value.bool (by rw [EV.names]; simp only [hk0, hk1, decide_eq_true hk2, hk3, hk4, Bool.true_and, Bool.and_true, Bool.false_and, Bool.and_false, Bool.true_or, Bool.or_true, Bool.false_or, Bool.or_false, Bool.not_true, Bool.not_false]))) rfl ?_
                      refine l_nil ?_
                      refine WE.sub (l' := [(1, _), (11, _), (12, _)]) ⟨rfl, rfl, rfl, trivial⟩ (e_K (J39  w30 ⟨Bg1, E⟩))
                    · skip
                      refine c_region ?_
                      refine sv (o_fa0 fd33_0 rfl) rfl ?_
                      refine sv (o_ld sc9 rfl (Bg1.cell rfl)) rfl ?_
                      refine sc (o_call ent35 rfl) (c_roomR _ e.room ho1) rfl fun v_ w31 h_ => ?_
                      obtain ⟨rfl, E_⟩ := h_
                      replace Bg1 := Bg1.mod0 E_
                      replace E := E.then E_
                      refine sv (o_mv rfl) rfl ?_
                      refine sg rfl (hk0) (o_fa0 fd33_1 rfl) rfl ?_
                      refine sg rfl (hk0) (o_ld sc9 rfl (Bg1.cell rfl)) rfl ?_
                      refine sgc rfl (hk0) (o_call ent36 rfl) (c_userR _ e.snd ho2) rfl fun v_ w32 h_ => ?_
                      obtain ⟨rfl, E_⟩ := h_
                      replace Bg1 := Bg1.mod0 E_
                      replace E := E.then E_
                      refine sv (o_pickT (hk0) rfl rfl) rfl ?_
                      refine sv (o_mv rfl) rfl ?_
                      refine sg rfl (hk1) (o_fa0 fd33_2 rfl) rfl ?_
                      refine sg rfl (hk1) (o_ld sc9 rfl (Bg1.cell rfl)) rfl ?_
                      refine sg rfl (hk1) (o_sne rfl rfl) rfl ?_
                      refine sv (o_pickT (hk1) rfl rfl) rfl ?_
                      refine sv (o_mv rfl) rfl ?_
                      refine sg rfl (decide_eq_true hk2) (o_fa0 fd33_2 rfl) rfl ?_
                      refine sg rfl (decide_eq_true hk2) (o_ld sc9 rfl (Bg1.cell rfl)) rfl ?_
                      refine sgc rfl (decide_eq_true hk2) (o_call ent37 rfl) (c_few _ _) rfl fun v_ w33 h_ => ?_
                      obtain ⟨rfl, E_⟩ := h_
                      replace Bg1 := Bg1.mod0 E_
                      replace E := E.then E_
                      refine sv (o_pickT (decide_eq_true hk2) rfl rfl) rfl ?_
                      refine sv (o_mv rfl) rfl ?_
                      refine sg rfl (hk3) (o_fa0 fd33_4 rfl) rfl ?_
                      refine sg rfl (hk3) (o_ld sc9 rfl (Bg1.cell rfl)) rfl ?_
                      refine sgc rfl (hk3) (o_call ent37 rfl) (c_few _ _) rfl fun v_ w34 h_ => ?_
                      obtain ⟨rfl, E_⟩ := h_
                      replace Bg1 := Bg1.mod0 E_
                      replace E := E.then E_
                      refine sv (o_pickT (hk3) rfl rfl) rfl ?_
                      refine sv ((o_as rfl).to (v' := .bool e.names) (congrArg Value.bool (by rw [EV.names]; simp only [hk0, hk1, decide_eq_true hk2, hk3, Bool.eq_false_iff.2 hk4, Bool.true_and, Bool.and_true, Bool.false_and, Bool.and_false, Bool.true_or, Bool.or_true, Bool.false_or, Bool.or_false, Bool.not_true, Bool.not_false]))) rfl ?_
                      refine l_nil ?_
                      refine WE.sub (l' := [(1, _), (11, _), (12, _)]) ⟨rfl, rfl, rfl, trivial⟩ (e_K (J39  w34 ⟨Bg1, E⟩))
                  · skip
                    refine c_region ?_
                    refine sv (o_fa0 fd33_0 rfl) rfl ?_
                    refine sv (o_ld sc9 rfl (Bg1.cell rfl)) rfl ?_
                    refine sc (o_call ent35 rfl) (c_roomR _ e.room ho1) rfl fun v_ w35 h_ => ?_
                    obtain ⟨rfl, E_⟩ := h_
                    replace Bg1 := Bg1.mod0 E_
                    replace E := E.then E_
                    refine sv (o_mv rfl) rfl ?_
                    refine sg rfl (hk0) (o_fa0 fd33_1 rfl) rfl ?_
                    refine sg rfl (hk0) (o_ld sc9 rfl (Bg1.cell rfl)) rfl ?_
                    refine sgc rfl (hk0) (o_call ent36 rfl) (c_userR _ e.snd ho2) rfl fun v_ w36 h_ => ?_
                    obtain ⟨rfl, E_⟩ := h_
                    replace Bg1 := Bg1.mod0 E_
                    replace E := E.then E_
                    refine sv (o_pickT (hk0) rfl rfl) rfl ?_
                    refine sv (o_mv rfl) rfl ?_
                    refine sg rfl (hk1) (o_fa0 fd33_2 rfl) rfl ?_
                    refine sg rfl (hk1) (o_ld sc9 rfl (Bg1.cell rfl)) rfl ?_
                    refine sg rfl (hk1) (o_sne rfl rfl) rfl ?_
                    refine sv (o_pickT (hk1) rfl rfl) rfl ?_
                    refine sv (o_mv rfl) rfl ?_
                    refine sg rfl (decide_eq_true hk2) (o_fa0 fd33_2 rfl) rfl ?_
                    refine sg rfl (decide_eq_true hk2) (o_ld sc9 rfl (Bg1.cell rfl)) rfl ?_
                    refine sgc rfl (decide_eq_true hk2) (o_call ent37 rfl) (c_few _ _) rfl fun v_ w37 h_ => ?_
                    obtain ⟨rfl, E_⟩ := h_
                    replace Bg1 := Bg1.mod0 E_
                    replace E := E.then E_
                    refine sv (o_pickT (decide_eq_true hk2) rfl rfl) rfl ?_
                    refine sv (o_mv rfl) rfl ?_
                    refine sn rfl (fun e_ => absurd ((Bool.eq_false_iff.2 hk3).symm.trans e_) (by decide)) rfl ?_
                    refine sn rfl (fun e_ => absurd ((Bool.eq_false_iff.2 hk3).symm.trans e_) (by decide)) rfl ?_
                    refine sn rfl (fun e_ => absurd ((Bool.eq_false_iff.2 hk3).symm.trans e_) (by decide)) rfl ?_
                    refine sv (o_pickF (Bool.eq_false_iff.2 hk3) rfl rfl) rfl ?_
                    refine sv ((o_as rfl).to (v' := .bool e.names) (congrArg Value.bool (by rw [EV.names]; simp only [hk0, hk1, decide_eq_true hk2, Bool.eq_false_iff.2 hk3, Bool.true_and, Bool.and_true, Bool.false_and, Bool.and_false, Bool.true_or, Bool.or_true, Bool.false_or, Bool.or_false, Bool.not_true, Bool.not_false]))) rfl ?_
                    refine l_nil ?_
                    refine WE.sub (l' := [(1, _), (11, _), (12, _)]) ⟨rfl, rfl, rfl, trivial⟩ (e_K (J39  w37 ⟨Bg1, E⟩))
                · skip
                  refine c_region ?_
                  refine sv (o_fa0 fd33_0 rfl) rfl ?_
                  refine sv (o_ld sc9 rfl (Bg1.cell rfl)) rfl ?_
                  refine sc (o_call ent35 rfl) (c_roomR _ e.room ho1) rfl fun v_ w38 h_ => ?_
                  obtain ⟨rfl, E_⟩ := h_
                  replace Bg1 := Bg1.mod0 E_
                  replace E := E.then E_
                  refine sv (o_mv rfl) rfl ?_
                  refine sg rfl (hk0) (o_fa0 fd33_1 rfl) rfl ?_
                  refine sg rfl (hk0) (o_ld sc9 rfl (Bg1.cell rfl)) rfl ?_
                  refine sgc rfl (hk0) (o_call ent36 rfl) (c_userR _ e.snd ho2) rfl fun v_ w39 h_ => ?_
                  obtain ⟨rfl, E_⟩ := h_
                  replace Bg1 := Bg1.mod0 E_
                  replace E := E.then E_
                  refine sv (o_pickT (hk0) rfl rfl) rfl ?_
                  refine sv (o_mv rfl) rfl ?_
                  refine sg rfl (hk1) (o_fa0 fd33_2 rfl) rfl ?_
                  refine sg rfl (hk1) (o_ld sc9 rfl (Bg1.cell rfl)) rfl ?_
                  refine sg rfl (hk1) (o_sne rfl rfl) rfl ?_
                  refine sv (o_pickT (hk1) rfl rfl) rfl ?_
                  refine sv (o_mv rfl) rfl ?_
                  refine sn rfl (fun e_ => absurd ((decide_eq_false hk2).symm.trans e_) (by decide)) rfl ?_
                  refine sn rfl (fun e_ => absurd ((decide_eq_false hk2).symm.trans e_) (by decide)) rfl ?_
                  refine sn rfl (fun e_ => absurd ((decide_eq_false hk2).symm.trans e_) (by decide)) rfl ?_
                  refine sv (o_pickF (decide_eq_false hk2) rfl rfl) rfl ?_
                  refine sv (o_mv rfl) rfl ?_
                  refine sn rfl (fun e_ => absurd ((rfl).symm.trans e_) (by decide)) rfl ?_
                  refine sn rfl (fun e_ => absurd ((rfl).symm.trans e_) (by decide)) rfl ?_
                  refine sn rfl (fun e_ => absurd ((rfl).symm.trans e_) (by decide)) rfl ?_
                  refine sv (o_pickF (rfl) rfl rfl) rfl ?_
                  refine sv ((o_as rfl).to (v' := .bool e.names) (congrArg Value.bool (by rw [EV.names]; simp only [hk0, hk1, decide_eq_false hk2, Bool.true_and, Bool.and_true, Bool.false_and, Bool.and_false, Bool.true_or, Bool.or_true, Bool.false_or, Bool.or_false, Bool.not_true, Bool.not_false]))) rfl ?_
                  refine l_nil ?_
                  refine WE.sub (l' := [(1, _), (11, _), (12, _)]) ⟨rfl, rfl, rfl, trivial⟩ (e_K (J39  w39 ⟨Bg1, E⟩))
              · skip
                refine c_region ?_
                refine sv (o_fa0 fd33_0 rfl) rfl ?_
                refine sv (o_ld sc9 rfl (Bg1.cell rfl)) rfl ?_
                refine sc (o_call ent35 rfl) (c_roomR _ e.room ho1) rfl fun v_ w40 h_ => ?_
                obtain ⟨rfl, E_⟩ := h_
                replace Bg1 := Bg1.mod0 E_
                replace E := E.then E_
                refine sv (o_mv rfl) rfl ?_
                refine sg rfl (hk0) (o_fa0 fd33_1 rfl) rfl ?_
                refine sg rfl (hk0) (o_ld sc9 rfl (Bg1.cell rfl)) rfl ?_
                refine sgc rfl (hk0) (o_call ent36 rfl) (c_userR _ e.snd ho2) rfl fun v_ w41 h_ => ?_
                obtain ⟨rfl, E_⟩ := h_
                replace Bg1 := Bg1.mod0 E_
                replace E := E.then E_
                refine sv (o_pickT (hk0) rfl rfl) rfl ?_
                refine sv (o_mv rfl) rfl ?_
                refine sn rfl (fun e_ => absurd ((Bool.eq_false_iff.2 hk1).symm.trans e_) (by decide)) rfl ?_
                refine sn rfl (fun e_ => absurd ((Bool.eq_false_iff.2 hk1).symm.trans e_) (by decide)) rfl ?_
                refine sn rfl (fun e_ => absurd ((Bool.eq_false_iff.2 hk1).symm.trans e_) (by decide)) rfl ?_
                refine sv (o_pickF (Bool.eq_false_iff.2 hk1) rfl rfl) rfl ?_
                refine sv (o_mv rfl) rfl ?_
                refine sn rfl (fun e_ => absurd ((rfl).symm.trans e_) (by decide)) rfl ?_
                refine sn rfl (fun e_ => absurd ((rfl).symm.trans e_) (by decide)) rfl ?_
                refine sn rfl (fun e_ => absurd ((rfl).symm.trans e_) (by decide)) rfl ?_
                refine sv (o_pickF (rfl) rfl rfl) rfl ?_
                refine sv (o_mv rfl) rfl ?_
                refine sn rfl (fun e_ => absurd ((rfl).symm.trans e_) (by decide)) rfl ?_
                refine sn rfl (fun e_ => absurd ((rfl).symm.trans e_) (by decide)) rfl ?_
                refine sn rfl (fun e_ => absurd ((rfl).symm.trans e_) (by decide)) rfl ?_
                refine sv (o_pickF (rfl) rfl rfl) rfl ?_
                refine sv ((o_as rfl).to (v' := .bool e.names) (congrArg Value.bool (by rw [EV.names]; simp only [hk0, Bool.eq_false_iff.2 hk1, Bool.true_and, Bool.and_true, Bool.false_and, Bool.and_false, Bool.true_or, Bool.or_true, Bool.false_or, Bool.or_false, Bool.not_true, Bool.not_false]))) rfl ?_
                refine l_nil ?_
                refine WE.sub (l' := [(1, _), (11, _), (12, _)]) ⟨rfl, rfl, rfl, trivial⟩ (e_K (J39  w41 ⟨Bg1, E⟩))
            · skip
              refine c_region ?_
              refine sv (o_fa0 fd33_0 rfl) rfl ?_
              refine sv (o_ld sc9 rfl (Bg1.cell rfl)) rfl ?_
              refine sc (o_call ent35 rfl) (c_roomR _ e.room ho1) rfl fun v_ w42 h_ => ?_
              obtain ⟨rfl, E_⟩ := h_
              replace Bg1 := Bg1.mod0 E_
              replace E := E.then E_
              refine sv (o_mv rfl) rfl ?_
              refine sn rfl (fun e_ => absurd ((Bool.eq_false_iff.2 hk0).symm.trans e_) (by decide)) rfl ?_
              refine sn rfl (fun e_ => absurd ((Bool.eq_false_iff.2 hk0).symm.trans e_) (by decide)) rfl ?_
              refine sn rfl (fun e_ => absurd ((Bool.eq_false_iff.2 hk0).symm.trans e_) (by decide)) rfl ?_
              refine sv (o_pickF (Bool.eq_false_iff.2 hk0) rfl rfl) rfl ?_
              refine sv (o_mv rfl) rfl ?_
              refine sn rfl (fun e_ => absurd ((rfl).symm.trans e_) (by decide)) rfl ?_
              refine sn rfl (fun e_ => absurd ((rfl).symm.trans e_) (by decide)) rfl ?_
              refine sn rfl (fun e_ => absurd ((rfl).symm.trans e_) (by decide)) rfl ?_
              refine sv (o_pickF (rfl) rfl rfl) rfl ?_
              refine sv (o_mv rfl) rfl ?_
              refine sn rfl (fun e_ => absurd ((rfl).symm.trans e_) (by decide)) rfl ?_
              refine sn rfl (fun e_ => absurd ((rfl).symm.trans e_) (by decide)) rfl ?_
              refine sn rfl (fun e_ => absurd ((rfl).symm.trans e_) (by decide)) rfl ?_
              refine sv (o_pickF (rfl) rfl rfl) rfl ?_
              refine sv (o_mv rfl) rfl ?_
              refine sn rfl (fun e_ => absurd ((rfl).symm.trans e_) (by decide)) rfl ?_
              refine sn rfl (fun e_ => absurd ((rfl).symm.trans e_) (by decide)) rfl ?_
              refine sn rfl (fun e_ => absurd ((rfl).symm.trans e_) (by decide)) rfl ?_
              refine sv (o_pickF (rfl) rfl rfl) rfl ?_
              refine sv ((o_as rfl).to (v' := .bool e.names) (congrArg Value.bool (by rw [EV.names]; simp only [Bool.eq_false_iff.2 hk0, Bool.true_and, Bool.and_true, Bool.false_and, Bool.and_false, Bool.true_or, Bool.or_true, Bool.false_or, Bool.or_false, Bool.not_true, Bool.not_false]))) rfl ?_
              refine l_nil ?_
              refine WE.sub (l' := [(1, _), (11, _), (12, _)]) ⟨rfl, rfl, rfl, trivial⟩ (e_K (J39  w42 ⟨Bg1, E⟩))
end Go.Proofs.YtkhbnhdlelmbnaaDoor.V
