/-
  A part of the proof: walks of functions. No condition of its own.
-/
import Derived.Test.YtkhbnhdlelmbnaaDoorM16
import Derived.Test.YtkhbnhdlelmbnaaDoorM12
import Derived.Test.YtkhbnhdlelmbnaaDoorM17
set_option linter.unusedVariables false
set_option linter.unusedSimpArgs false
set_option maxRecDepth 10000
namespace Go.Proofs.YtkhbnhdlelmbnaaDoor.V
open Go Go.Proofs
theorem ent29 : Ent Tryd.prog 29 := Ent.of Tryd.func29 (by kernel_rfl) (by kernel_rfl)
theorem ent30 : Ent Tryd.prog 30 := Ent.of Tryd.func30 (by kernel_rfl) (by kernel_rfl)
theorem fd33_8 : fdB Tryd.prog 33 8 13 1 = true := by kernel_rfl
theorem ent26 : Ent Tryd.prog 26 := Ent.of Tryd.func26 (by kernel_rfl) (by kernel_rfl)
theorem fd33_9 : fdB Tryd.prog 33 9 14 1 = true := by kernel_rfl
theorem ent28 : Ent Tryd.prog 28 := Ent.of Tryd.func28 (by kernel_rfl) (by kernel_rfl)
theorem ent23 : Ent Tryd.prog 23 := Ent.of Tryd.func23 (by kernel_rfl) (by kernel_rfl)
theorem ent24 : Ent Tryd.prog 24 := Ent.of Tryd.func24 (by kernel_rfl) (by kernel_rfl)
theorem ent25 : Ent Tryd.prog 25 := Ent.of Tryd.func25 (by kernel_rfl) (by kernel_rfl)
theorem fd33_3 : fdB Tryd.prog 33 3 3 1 = true := by kernel_rfl
theorem c_cloneS (w : World) (xs : List Str) (ad : Option Addr) (c : Nat) (R : Rep [] w (strD xs) (.slice ad xs.length c)) (hn : xs.length ≤ 1000000) : Calls Tryd.prog 29 [.slice ad xs.length c].toArray w (Ret fun u w' => Own w' 9 1 u xs.length ((xs.map fun s => [S s]).flatten) ∧ (∀ x ∈ ob u, w.heap.size ≤ x) ∧ Mod [] w w') := by
  refine enter Tryd.func29 rfl rfl rfl (l := [(0, _)]) ⟨rfl, trivial⟩ ?_
  have E := Mod.refl [] w
  have hne : ad = none → xs = [] := fun h => by subst h; exact flat_none R
  refine c_seq fun K1 hK1 => ?_
  refine c_region ?_
  refine sv (o_as rfl) rfl ?_
  refine l_nil ?_
  refine e_K (hK1 _ _ _ _ ?_)
  refine c_seq fun K2 hK2 => ?_
  refine c_seq fun K3 hK3 => ?_
  refine c_region ?_
  refine sv (o_mv rfl) rfl ?_
  refine sv (o_neqs Tryd.underlying30 rfl rfl) rfl ?_
  refine l_nil ?_
  refine e_K (hK3 _ _ _ _ ?_)
  refine c_cond rfl (fun h4 => ?_) (fun h4 => ?_)
  · skip
    have hx0 : xs = [] := hne (by cases ad with | none => rfl | some a => simp at h4)
    subst hx0
    refine c_seq fun K4 hK4 => ?_
    refine c_region ?_
    refine sv (o_as rfl) rfl ?_
    refine l_nil ?_
    refine e_K (hK4 _ _ _ _ ?_)
    refine c_ret ?_
    refine e_then (by simp) ?_
    exact ret1 rfl rfl ⟨by simpa using Own.nil _ 9 1, by simp [ob], E⟩
  · skip
    refine c_skip ?_
    refine e_K (hK2 _ _ _ _ ?_)
    refine c_seq fun K5 hK5 => ?_
    refine c_region ?_
    refine s_bslice (cs := []) sl30 zv9 rfl rfl rfl (by decide) rfl fun g1 w1 N1 => ?_
    have Lg1_E := N1.le E
    replace E := E.then N1.mod
    have Bg1 := N1.blk
    refine sv (o_mv rfl) rfl ?_
    refine s_append sl30 rfl rfl (Own.all (c := 0) (cs := []) Bg1 rfl (by omega)) (Src.flat Tryd.underlying30 (R.to0 E)) (by decide) (by omega) (by omega) rfl fun v1 w2 A1 => ?_
    replace E := E.trans' A1.mod (fun x hx => .inr (by simp [ob] at hx; subst hx; exact Lg1_E))
    have L1 : ∀ x ∈ ob v1, w.heap.size ≤ x := fun x hx => (A1.ob_ x hx).elim (fun h => by simp [ob] at h; subst h; exact Lg1_E) (fun h => Nat.le_trans (Nat.le_trans Lg1_E (Nat.le_of_lt Bg1.lt)) h)
    refine sv (o_as rfl) rfl ?_
    refine l_nil ?_
    refine e_K (hK5 _ _ _ _ ?_)
    refine c_ret ?_
    exact ret1 rfl rfl ⟨A1.own.same (by simp) (by simp), L1, E⟩

theorem c_check (w : World) (e : EV) (us : List Value) (R : Reps [] w e.D us) (ho : e.ok) (hsm : e.lens) (hT : Tab w) (hM : MaxL w) : Calls Tryd.prog 9 [.agg us.toArray].toArray w (Ret fun u w' => u = .int .i64 e.chk ∧ Mod [] w w') := by
  refine enter Tryd.func9 rfl rfl rfl (l := [(0, _)]) ⟨rfl, trivial⟩ ?_
  have E := Mod.refl [] w
  obtain ⟨al, cl, am, cm, ap, cp, aa, ca, aS, cS, rfl, Rc, Rp, Ra, Rs⟩ := EV.cells17 R
  obtain ⟨ho1, ho2, ho3, ho4, ho5, ho6, ho7, ho8, ho9, ho10, ho11, ho12⟩ := ho
  have hslen : ∀ s ∈ e.sigs, s.srv.length < 4294967281 ∧ s.key.length ≤ 140737488351232 ∧ s.sig.length ≤ 140737488351232 := fun s hs => ⟨hsm.2.2 s hs, (ho11 s hs).2.1, (ho11 s hs).2.2⟩
  refine c_seq fun K1 hK1 => ?_
  refine c_region ?_
  refine s_box rfl rfl rfl fun g1 w1 N1 => ?_
  have Lg1_E := N1.le E
  replace E := E.then N1.mod
  have Bg1 := N1.blk
  refine sv (o_as rfl) rfl ?_
  refine l_nil ?_
  refine e_K (hK1 _ _ _ _ ?_)
  refine c_seq fun K2 hK2 => ?_
  refine c_seq fun K3 hK3 => ?_
  by_cases hk0 : (e.prev.length : Int) > 20
  · skip
    refine c_region ?_
    refine sv (o_fa0 fd33_6 rfl) rfl ?_
    refine sv (o_ld sc30 rfl (Bg1.cell rfl)) rfl ?_
    refine sv (o_len Tryd.underlying30 rfl) rfl ?_
    refine sv (o_gtr rfl rfl) rfl ?_
    refine sv (o_mv rfl) rfl ?_
    refine sn rfl (fun e_ => absurd ((decide_eq_true hk0).symm.trans e_) (by decide)) rfl ?_
    refine sn rfl (fun e_ => absurd ((decide_eq_true hk0).symm.trans e_) (by decide)) rfl ?_
    refine sn rfl (fun e_ => absurd ((decide_eq_true hk0).symm.trans e_) (by decide)) rfl ?_
    refine sn rfl (fun e_ => absurd ((decide_eq_true hk0).symm.trans e_) (by decide)) rfl ?_
    refine sv (o_pickT (decide_eq_true hk0) rfl rfl) rfl ?_
    refine l_nil ?_
    refine e_K (hK3 _ _ _ _ ?_)
    refine c_true rfl ?_
    have hmany : 20 < e.prev.length ∨ 10 < e.auth.length := by omega
    refine c_seq fun K4 hK4 => ?_
    refine c_region ?_
    refine sv (o_as rfl) rfl ?_
    refine l_nil ?_
    refine e_K (hK4 _ _ _ _ ?_)
    refine c_ret ?_
    refine e_then (by simp) ?_
    exact ret1 rfl rfl ⟨by rw [EV.chk_many hmany], E⟩
  · skip
    by_cases hk1 : (e.auth.length : Int) > 10
    · skip
      refine c_region ?_
      refine sv (o_fa0 fd33_6 rfl) rfl ?_
      refine sv (o_ld sc30 rfl (Bg1.cell rfl)) rfl ?_
      refine sv (o_len Tryd.underlying30 rfl) rfl ?_
      refine sv (o_gtr rfl rfl) rfl ?_
      refine sv (o_mv rfl) rfl ?_
      refine sg rfl (decide_eq_false hk0) (o_fa0 fd33_7 rfl) rfl ?_
      refine sg rfl (decide_eq_false hk0) (o_ld sc30 rfl (Bg1.cell rfl)) rfl ?_
      refine sg rfl (decide_eq_false hk0) (o_len Tryd.underlying30 rfl) rfl ?_
      refine sg rfl (decide_eq_false hk0) (o_gtr rfl rfl) rfl ?_
      refine sv (o_pickF (decide_eq_false hk0) rfl rfl) rfl ?_
      refine l_nil ?_
      refine e_K (hK3 _ _ _ _ ?_)
      refine c_if rfl (fun h17 => ?_) (fun h17 => absurd hk1 h17)
      have hmany : 20 < e.prev.length ∨ 10 < e.auth.length := by omega
      refine c_seq fun K5 hK5 => ?_
      refine c_region ?_
      refine sv (o_as rfl) rfl ?_
      refine l_nil ?_
      refine e_K (hK5 _ _ _ _ ?_)
      refine c_ret ?_
      refine e_then (by simp) ?_
      exact ret1 rfl rfl ⟨by rw [EV.chk_many hmany], E⟩
    · skip
      refine c_region ?_
      refine sv (o_fa0 fd33_6 rfl) rfl ?_
      refine sv (o_ld sc30 rfl (Bg1.cell rfl)) rfl ?_
      refine sv (o_len Tryd.underlying30 rfl) rfl ?_
      refine sv (o_gtr rfl rfl) rfl ?_
      refine sv (o_mv rfl) rfl ?_
      refine sg rfl (decide_eq_false hk0) (o_fa0 fd33_7 rfl) rfl ?_
      refine sg rfl (decide_eq_false hk0) (o_ld sc30 rfl (Bg1.cell rfl)) rfl ?_
      refine sg rfl (decide_eq_false hk0) (o_len Tryd.underlying30 rfl) rfl ?_
      refine sg rfl (decide_eq_false hk0) (o_gtr rfl rfl) rfl ?_
      refine sv (o_pickF (decide_eq_false hk0) rfl rfl) rfl ?_
      refine l_nil ?_
      refine e_K (hK3 _ _ _ _ ?_)
      refine c_if rfl (fun h17 => absurd h17 hk1) (fun h17 => ?_)
      have hfew : ¬ (20 < e.prev.length ∨ 10 < e.auth.length) := by omega
      refine c_skip ?_
      refine e_K (hK2 _ _ _ _ ?_)
      refine c_seq fun K6 hK6 => ?_
      refine c_region ?_
      refine sv (o_fa0 fd33_5 rfl) rfl ?_
      refine sv (o_lda (vs := [_, _, _, _, _, _]) ag25 rfl rfl (Bg1.cs rfl)) rfl ?_
      refine sc (o_call ent6 rfl) (c_canon _ e.con _ (Rc.to0 E) (hT.mod E (by simp))) rfl fun v_ w2 h_ => ?_
      obtain ⟨rfl, E_⟩ := h_
      replace Bg1 := Bg1.mod0 E_
      replace E := E.then E_
      refine sv (o_mv rfl) rfl ?_
      refine sv (o_ext rfl rfl) rfl ?_
      refine sv (o_ext rfl rfl) rfl ?_
      refine sv (o_as rfl) rfl ?_
      refine sv (o_as rfl) rfl ?_
      refine l_nil ?_
      refine e_K (hK6 _ _ _ _ ?_)
      refine c_seq fun K7 hK7 => ?_
      have J7 : ∀  (w1 : World), Blk w1 g1 33 [S e.room, S e.snd, S e.ty, .bool e.st, S e.key, .int .i64 e.con.kind, .bool e.con.is, .int .i64 e.con.num, S e.con.str, .slice al e.con.list.length cl, .slice am e.con.map.length cm, .slice ap e.prev.length cp, .slice aa e.auth.length ca, .int .i64 e.dep, .int .i64 e.time, S e.hash, .slice aS e.sigs.length cS] ∧ Mod [] w w1 → ∀ a, Has 106 [] [(1, .pointer (some ⟨g1, 0, none⟩)), (4, .int .i64 (ern (e.con.wr 0 []))), (5, .bool e.fine1)] a → K7 a w1 := by
        intro  w3 hI
        obtain ⟨Bg1, E⟩ := hI
        refine hK7 _ _ _ _ ?_
        refine c_seq fun K8 hK8 => ?_
        have J8 : ∀  (w1 : World), Blk w1 g1 33 [S e.room, S e.snd, S e.ty, .bool e.st, S e.key, .int .i64 e.con.kind, .bool e.con.is, .int .i64 e.con.num, S e.con.str, .slice al e.con.list.length cl, .slice am e.con.map.length cm, .slice ap e.prev.length cp, .slice aa e.auth.length ca, .int .i64 e.dep, .int .i64 e.time, S e.hash, .slice aS e.sigs.length cS] ∧ Mod [] w w1 → ∀ a, Has 106 [] [(1, .pointer (some ⟨g1, 0, none⟩)), (5, .bool e.fine2)] a → K8 a w1 := by
          intro  w4 hI
          obtain ⟨Bg1, E⟩ := hI
          refine hK8 _ _ _ _ ?_
          refine c_seq fun K9 hK9 => ?_
          refine c_seq fun K10 hK10 => ?_
          refine c_drawp [7] [0, 1, 2, 3, 4] 5 [6] wide (by kernel_rfl) (fun _ _ _ h => h.2) ?_
          refine pw (fun _ => (o_mv rfl)) rfl rfl ?_
          refine pw_nil ?_
          refine tv (fun w_ E_ => (o_fa0 fd33_6 rfl)) rfl rfl ?_
          refine tv (fun w_ E_ => (o_ld sc30 rfl ((Bg1.mod0 E_).cell rfl))) rfl rfl ?_
          refine tcr (fun u_ w_ => Own w_ 9 1 u_ e.prev.length ((e.prev.map fun s => [S s]).flatten) ∧ ∀ x ∈ ob u_, w.heap.size ≤ x) (fun v_ w1_ w2_ k_ h_ => ⟨h_.1.mod0 k_, h_.2⟩) (fun w_ E_ => o_call ent29 rfl) (fun w_ E_ => Calls.imp (c_cloneS _ e.prev ap cp (Rp.to0 (E.then E_)) (by omega)) fun r_ w2_ hr => ⟨⟨hr.1, fun x hx => Nat.le_trans (E.then E_).size (hr.2.1 x hx)⟩, hr.2.2⟩) rfl rfl rfl ?_
          refine tv (fun w_ E_ => (o_fa0 fd33_7 rfl)) rfl rfl ?_
          refine tv (fun w_ E_ => (o_ld sc30 rfl ((Bg1.mod0 E_).cell rfl))) rfl rfl ?_
          refine tw_tail1 (t := 89) rfl rfl rfl rfl fun w5 v9 E_ h_ => ?_
          obtain ⟨O, L0⟩ := h_
          replace Bg1 := Bg1.mod0 E_
          replace E := E.then E_
          refine s_append sl30 rfl rfl O (Src.flat Tryd.underlying30 (Ra.to0 E)) (by decide) (by omega) (by omega) rfl fun u1 w6 A1 => ?_
          replace E := E.trans' A1.mod (fun x hx => .inr (L0 x hx))
          have O1 : Own w6 9 1 u1 (e.prev ++ e.auth).length (((e.prev ++ e.auth).map fun s => [S s]).flatten) := A1.own.same (by simp) (by simp)
          obtain ⟨ad1, cp1, rfl, hcp1, hcp2⟩ := O1.form
          have RR := Own.strs [] O1 (by simp)
          refine sv (o_len Tryd.underlying30 rfl) rfl ?_
          refine l_nil ?_
          refine e_K (hK10 _ _ _ _ ?_)
          refine c_block ?_
          refine c_loop (σ := Nat × Bool) (fun ⟨k, x⟩ => [(5, .bool x), (92, .slice ad1 (e.prev ++ e.auth).length cp1), (93, .int .i64 ((e.prev ++ e.auth).length : Int)), (94, .int .i64 (k : Int))]) (fun ⟨k, x⟩ w1 => k ≤ (e.prev ++ e.auth).length ∧ x = (e.fine2 && ((e.prev ++ e.auth).take k).all eventB) ∧ Rep [] w1 (strD (e.prev ++ e.auth)) (.slice ad1 (e.prev ++ e.auth).length cp1) ∧ Mod [] w w1) (fun ⟨k, x⟩ => (e.prev ++ e.auth).length - k) (⟨0, e.fine2⟩) ⟨rfl, rfl, rfl, rfl, trivial⟩ (⟨by omega, by simp, RR, E⟩) ?_
          rintro ⟨k, x⟩ w7 ⟨hk, hx, RR, E⟩
          refine c_seq fun K11 hK11 => ?_
          refine c_region ?_
          refine sv (o_lss rfl rfl) rfl ?_
          refine l_nil ?_
          refine e_K (hK11 _ _ _ _ ?_)
          refine c_seq fun K12 hK12 => ?_
          refine c_if rfl (fun h95 => ?_) (fun h95 => ?_)
          · skip
            obtain ⟨y, hy⟩ : ∃ y, (e.prev ++ e.auth)[k]? = some y := ⟨_, List.getElem?_eq_getElem (by omega)⟩
            obtain ⟨a_y, ha_y, hcs_y, _⟩ := flat_at RR hy
            cases ha_y
            have hyl : y.length ≤ 140737488351232 := (List.mem_append.1 (List.mem_of_getElem? hy)).elim (ho6 y) (ho8 y)
            refine c_skip ?_
            refine e_K (hK12 _ _ _ _ ?_)
            refine c_seq fun K13 hK13 => ?_
            refine c_block ?_
            refine c_seq fun K14 hK14 => ?_
            refine c_region ?_
            refine sv (o_ix sl30 rfl rfl (by omega)) rfl ?_
            refine sv (o_ld sc9 rfl hcs_y.first) rfl ?_
            refine sv (o_as rfl) rfl ?_
            refine l_nil ?_
            refine e_K (hK14 _ _ _ _ ?_)
            by_cases hk0 : (x) = true
            · skip
              by_cases hk1 : (eventB y) = true
              · skip
                refine c_region ?_
                refine sv (o_mv rfl) rfl ?_
                refine sv (o_mv rfl) rfl ?_
                refine sg rfl (hk0) (o_mv rfl) rfl ?_
                refine sgc rfl (hk0) (o_call ent30 rfl) (c_event _ y hyl) rfl fun v_ w8 h_ => ?_
                obtain ⟨rfl, E_⟩ := h_
                replace RR := RR.mod0 E_
                replace E := E.then E_
                refine sv (o_pickT (hk0) rfl rfl) rfl ?_
                refine sv ((o_as rfl).to (v' := .bool (x && eventB y)) (congrArg Value.bool (by simp only [hk0, hk1, Bool.true_and, Bool.and_true, Bool.false_and, Bool.and_false, Bool.true_or, Bool.or_true, Bool.false_or, Bool.or_false, Bool.not_true, Bool.not_false]))) rfl ?_
                refine l_nil ?_
                refine e_in (by simp) ?_
                refine e_K (hK13 _ _ _ _ ?_)
                refine c_region ?_
                refine sv (o_addN rfl rfl (by omega)) rfl ?_
                refine sv (o_mv rfl) rfl ?_
                refine l_nil ?_
                exact e_round (σ := Nat × Bool) (s := ⟨k, x⟩) (⟨k + 1, (x && eventB y)⟩) ⟨rfl, rfl, rfl, rfl, trivial⟩ ⟨by omega, by rw [all_succ2 _ hy, ← Bool.and_assoc, ← hx], RR, E⟩ (by dsimp only; omega)
              · skip
                refine c_region ?_
                refine sv (o_mv rfl) rfl ?_
                refine sv (o_mv rfl) rfl ?_
                refine sg rfl (hk0) (o_mv rfl) rfl ?_
                refine sgc rfl (hk0) (o_call ent30 rfl) (c_event _ y hyl) rfl fun v_ w9 h_ => ?_
                obtain ⟨rfl, E_⟩ := h_
                replace RR := RR.mod0 E_
                replace E := E.then E_
                refine sv (o_pickT (hk0) rfl rfl) rfl ?_
                refine sv ((o_as rfl).to (v' := .bool (x && eventB y)) (congrArg Value.bool (by simp only [hk0, Bool.eq_false_iff.2 hk1, Bool.true_and, Bool.and_true, Bool.false_and, Bool.and_false, Bool.true_or, Bool.or_true, Bool.false_or, Bool.or_false, Bool.not_true, Bool.not_false]))) rfl ?_
                refine l_nil ?_
                refine e_in (by simp) ?_
                refine e_K (hK13 _ _ _ _ ?_)
                refine c_region ?_
                refine sv (o_addN rfl rfl (by omega)) rfl ?_
                refine sv (o_mv rfl) rfl ?_
                refine l_nil ?_
                exact e_round (σ := Nat × Bool) (s := ⟨k, x⟩) (⟨k + 1, (x && eventB y)⟩) ⟨rfl, rfl, rfl, rfl, trivial⟩ ⟨by omega, by rw [all_succ2 _ hy, ← Bool.and_assoc, ← hx], RR, E⟩ (by dsimp only; omega)
            · skip
              refine c_region ?_
              refine sv (o_mv rfl) rfl ?_
              refine sv (o_mv rfl) rfl ?_
              refine sn rfl (fun e_ => absurd ((Bool.eq_false_iff.2 hk0).symm.trans e_) (by decide)) rfl ?_
              refine sn rfl (fun e_ => absurd ((Bool.eq_false_iff.2 hk0).symm.trans e_) (by decide)) rfl ?_
              refine sv (o_pickF (Bool.eq_false_iff.2 hk0) rfl rfl) rfl ?_
              refine sv ((o_as rfl).to (v' := .bool (x && eventB y)) (congrArg Value.bool (by simp only [Bool.eq_false_iff.2 hk0, Bool.true_and, Bool.and_true, Bool.false_and, Bool.and_false, Bool.true_or, Bool.or_true, Bool.false_or, Bool.or_false, Bool.not_true, Bool.not_false]))) rfl ?_
              refine l_nil ?_
              refine e_in (by simp) ?_
              refine e_K (hK13 _ _ _ _ ?_)
              refine c_region ?_
              refine sv (o_addN rfl rfl (by omega)) rfl ?_
              refine sv (o_mv rfl) rfl ?_
              refine l_nil ?_
              exact e_round (σ := Nat × Bool) (s := ⟨k, x⟩) (⟨k + 1, (x && eventB y)⟩) ⟨rfl, rfl, rfl, rfl, trivial⟩ ⟨by omega, by rw [all_succ2 _ hy, ← Bool.and_assoc, ← hx], RR, E⟩ (by dsimp only; omega)
          · skip
            have hx9 : x = e.fine := by rw [hx, List.take_of_length_le (by omega)]; rfl
            refine c_exit ?_
            refine e_then (by simp) ?_
            refine e_then (by simp) ?_
            refine e_hit ?_
            refine e_K (hK9 _ _ _ _ ?_)
            refine c_seq fun K15 hK15 => ?_
            refine c_seq fun K16 hK16 => ?_
            refine c_region ?_
            refine sv (o_mv rfl) rfl ?_
            refine sv (o_not rfl) rfl ?_
            refine l_nil ?_
            refine e_K (hK16 _ _ _ _ ?_)
            refine c_cond rfl (fun h105 => ?_) (fun h105 => ?_)
            · skip
              have hF : e.fine = false := by rw [← hx9]; simpa using h105
              refine c_seq fun K17 hK17 => ?_
              refine c_region ?_
              refine sv (o_as rfl) rfl ?_
              refine l_nil ?_
              refine e_K (hK17 _ _ _ _ ?_)
              refine c_ret ?_
              refine e_then (by simp) ?_
              exact ret1 rfl rfl ⟨by rw [EV.chk_no hfew hF], E⟩
            · skip
              have hF : e.fine = true := by rw [← hx9]; simpa using h105
              refine c_skip ?_
              refine e_K (hK15 _ _ _ _ ?_)
              refine c_seq fun K18 hK18 => ?_
              refine c_region ?_
              refine sv (o_as rfl) rfl ?_
              refine l_nil ?_
              refine e_K (hK18 _ _ _ _ ?_)
              refine c_ret ?_
              exact ret1 rfl rfl ⟨by rw [EV.chk_yes hfew hF], E⟩
        by_cases hk0 : (e.fine1) = true
        · skip
          by_cases hk1 : e.con.kind = 5
          · skip
            by_cases hk2 : ern (e.con.wr 0 []) = 0
            · skip
              by_cases hk3 : (numB e.dep) = true
              · skip
                by_cases hk4 : (numB e.time) = true
                · skip
                  by_cases hk5 : (bytesB e.hash 32) = true
                  · skip
                    by_cases hk6 : (sigsL none e.sigs) = true
                    · skip
                      refine c_region ?_
                      refine sv (o_mv rfl) rfl ?_
                      refine sv (o_mv rfl) rfl ?_
                      refine sg rfl (hk0) (o_fa0 fd33_5 rfl) rfl ?_
                      refine sg rfl (hk0) (o_fa fd25_0 rfl) rfl ?_
                      refine sg rfl (hk0) (o_ld sc3 rfl (Bg1.cell rfl)) rfl ?_
                      refine sg rfl (hk0) (o_eql rfl rfl) rfl ?_
                      refine sv (o_pickT (hk0) rfl rfl) rfl ?_
                      refine sv (o_mv rfl) rfl ?_
                      refine sg rfl (decide_eq_true hk1) (o_mv rfl) rfl ?_
                      refine sg rfl (decide_eq_true hk1) (o_eql rfl rfl) rfl ?_
                      refine sv (o_pickT (decide_eq_true hk1) rfl rfl) rfl ?_
                      refine sv (o_mv rfl) rfl ?_
                      refine sg rfl (decide_eq_true hk2) (o_fa0 fd33_8 rfl) rfl ?_
                      refine sg rfl (decide_eq_true hk2) (o_ld sc3 rfl (Bg1.cell rfl)) rfl ?_
                      refine sgc rfl (decide_eq_true hk2) (o_call ent26 rfl) (c_number _ _) rfl fun v_ w10 h_ => ?_
                      obtain ⟨rfl, E_⟩ := h_
                      replace Bg1 := Bg1.mod0 E_
                      replace E := E.then E_
                      refine sv (o_pickT (decide_eq_true hk2) rfl rfl) rfl ?_
                      refine sv (o_mv rfl) rfl ?_
                      refine sg rfl (hk3) (o_fa0 fd33_9 rfl) rfl ?_
                      refine sg rfl (hk3) (o_ld sc3 rfl (Bg1.cell rfl)) rfl ?_
                      refine sgc rfl (hk3) (o_call ent26 rfl) (c_number _ _) rfl fun v_ w11 h_ => ?_
                      obtain ⟨rfl, E_⟩ := h_
                      replace Bg1 := Bg1.mod0 E_
                      replace E := E.then E_
                      refine sv (o_pickT (hk3) rfl rfl) rfl ?_
                      refine sv (o_mv rfl) rfl ?_
                      refine sg rfl (hk4) (o_fa0 fd33_10 rfl) rfl ?_
                      refine sg rfl (hk4) (o_ld sc9 rfl (Bg1.cell rfl)) rfl ?_
                      refine sgc rfl (hk4) (o_call ent27 rfl) (c_bytes _ e.hash 32 ho10) rfl fun v_ w12 h_ => ?_
                      obtain ⟨rfl, E_⟩ := h_
                      replace Bg1 := Bg1.mod0 E_
                      replace E := E.then E_
                      refine sv (o_pickT (hk4) rfl rfl) rfl ?_
                      refine sv (o_mv rfl) rfl ?_
                      refine sg rfl (hk5) (o_fa0 fd33_11 rfl) rfl ?_
                      refine sg rfl (hk5) (o_ld sc31 rfl (Bg1.cell rfl)) rfl ?_
                      refine sgc rfl (hk5) (o_call ent28 rfl) (c_sigs _ e.sigs aS cS (Rs.to0 E) hslen ho12 (hM.mod0 E)) rfl fun v_ w13 h_ => ?_
                      obtain ⟨rfl, E_⟩ := h_
                      replace Bg1 := Bg1.mod0 E_
                      replace E := E.then E_
                      refine sv (o_pickT (hk5) rfl rfl) rfl ?_
                      refine sv ((o_as rfl).to (v' := .bool e.fine2) (congrArg Value.bool (by rw [EV.fine2]; simp only [hk0, decide_eq_true hk1, decide_eq_true hk2, hk3, hk4, hk5, hk6, Bool.true_and, Bool.and_true, Bool.false_and, Bool.and_false, Bool.true_or, Bool.or_true, Bool.false_or, Bool.or_false, Bool.not_true, Bool.not_false]))) rfl ?_
                      refine l_nil ?_
                      refine WE.sub (l' := [(1, _), (5, _)]) ⟨rfl, rfl, trivial⟩ (e_K (J8  w13 ⟨Bg1, E⟩))
                    · skip
                      refine c_region ?_
                      refine sv (o_mv rfl) rfl ?_
                      refine sv (o_mv rfl) rfl ?_
                      refine sg rfl (hk0) (o_fa0 fd33_5 rfl) rfl ?_
                      refine sg rfl (hk0) (o_fa fd25_0 rfl) rfl ?_
                      refine sg rfl (hk0) (o_ld sc3 rfl (Bg1.cell rfl)) rfl ?_
                      refine sg rfl (hk0) (o_eql rfl rfl) rfl ?_
                      refine sv (o_pickT (hk0) rfl rfl) rfl ?_
                      refine sv (o_mv rfl) rfl ?_
                      refine sg rfl (decide_eq_true hk1) (o_mv rfl) rfl ?_
                      refine sg rfl (decide_eq_true hk1) (o_eql rfl rfl) rfl ?_
                      refine sv (o_pickT (decide_eq_true hk1) rfl rfl) rfl ?_
                      refine sv (o_mv rfl) rfl ?_
                      refine sg rfl (decide_eq_true hk2) (o_fa0 fd33_8 rfl) rfl ?_
                      refine sg rfl (decide_eq_true hk2) (o_ld sc3 rfl (Bg1.cell rfl)) rfl ?_
                      refine sgc rfl (decide_eq_true hk2) (o_call ent26 rfl) (c_number _ _) rfl fun v_ w14 h_ => ?_
                      obtain ⟨rfl, E_⟩ := h_
                      replace Bg1 := Bg1.mod0 E_
                      replace E := E.then E_
                      refine sv (o_pickT (decide_eq_true hk2) rfl rfl) rfl ?_
                      refine sv (o_mv rfl) rfl ?_
                      refine sg rfl (hk3) (o_fa0 fd33_9 rfl) rfl ?_
                      refine sg rfl (hk3) (o_ld sc3 rfl (Bg1.cell rfl)) rfl ?_
                      refine sgc rfl (hk3) (o_call ent26 rfl) (c_number _ _) rfl fun v_ w15 h_ => ?_
                      obtain ⟨rfl, E_⟩ := h_
                      replace Bg1 := Bg1.mod0 E_
                      replace E := E.then E_
                      refine sv (o_pickT (hk3) rfl rfl) rfl ?_
                      refine sv (o_mv rfl) rfl ?_
                      refine sg rfl (hk4) (o_fa0 fd33_10 rfl) rfl ?_
                      refine sg rfl (hk4) (o_ld sc9 rfl (Bg1.cell rfl)) rfl ?_
                      refine sgc rfl (hk4) (o_call ent27 rfl) (c_bytes _ e.hash 32 ho10) rfl fun v_ w16 h_ => ?_
                      obtain ⟨rfl, E_⟩ := h_
                      replace Bg1 := Bg1.mod0 E_
                      replace E := E.then E_
                      refine sv (o_pickT (hk4) rfl rfl) rfl ?_
                      refine sv (o_mv rfl) rfl ?_
                      refine sg rfl (hk5) (o_fa0 fd33_11 rfl) rfl ?_
                      refine sg rfl (hk5) (o_ld sc31 rfl (Bg1.cell rfl)) rfl ?_
                      refine sgc rfl (hk5) (o_call ent28 rfl) (c_sigs _ e.sigs aS cS (Rs.to0 E) hslen ho12 (hM.mod0 E)) rfl fun v_ w17 h_ => ?_
                      obtain ⟨rfl, E_⟩ := h_
                      replace Bg1 := Bg1.mod0 E_
                      replace E := E.then E_
                      refine sv (o_pickT (hk5) rfl rfl) rfl ?_
                      refine sv ((o_as rfl).to (v' := .bool e.fine2) (congrArg Value.bool (by rw [EV.fine2]; simp only [hk0, decide_eq_true hk1, decide_eq_true hk2, hk3, hk4, hk5, Bool.eq_false_iff.2 hk6, Bool.true_and, Bool.and_true, Bool.false_and, Bool.and_false, Bool.true_or, Bool.or_true, Bool.false_or, Bool.or_false, Bool.not_true, Bool.not_false]))) rfl ?_
                      refine l_nil ?_
                      refine WE.sub (l' := [(1, _), (5, _)]) ⟨rfl, rfl, trivial⟩ (e_K (J8  w17 ⟨Bg1, E⟩))
                  · skip
                    refine c_region ?_
                    refine sv (o_mv rfl) rfl ?_
                    refine sv (o_mv rfl) rfl ?_
                    refine sg rfl (hk0) (o_fa0 fd33_5 rfl) rfl ?_
                    refine sg rfl (hk0) (o_fa fd25_0 rfl) rfl ?_
                    refine sg rfl (hk0) (o_ld sc3 rfl (Bg1.cell rfl)) rfl ?_
                    refine sg rfl (hk0) (o_eql rfl rfl) rfl ?_
                    refine sv (o_pickT (hk0) rfl rfl) rfl ?_
                    refine sv (o_mv rfl) rfl ?_
                    refine sg rfl (decide_eq_true hk1) (o_mv rfl) rfl ?_
                    refine sg rfl (decide_eq_true hk1) (o_eql rfl rfl) rfl ?_
                    refine sv (o_pickT (decide_eq_true hk1) rfl rfl) rfl ?_
                    refine sv (o_mv rfl) rfl ?_
                    refine sg rfl (decide_eq_true hk2) (o_fa0 fd33_8 rfl) rfl ?_
                    refine sg rfl (decide_eq_true hk2) (o_ld sc3 rfl (Bg1.cell rfl)) rfl ?_
                    refine sgc rfl (decide_eq_true hk2) (o_call ent26 rfl) (c_number _ _) rfl fun v_ w18 h_ => ?_
                    obtain ⟨rfl, E_⟩ := h_
                    replace Bg1 := Bg1.mod0 E_
                    replace E := E.then E_
                    refine sv (o_pickT (decide_eq_true hk2) rfl rfl) rfl ?_
                    refine sv (o_mv rfl) rfl ?_
                    refine sg rfl (hk3) (o_fa0 fd33_9 rfl) rfl ?_
                    refine sg rfl (hk3) (o_ld sc3 rfl (Bg1.cell rfl)) rfl ?_
                    refine sgc rfl (hk3) (o_call ent26 rfl) (c_number _ _) rfl fun v_ w19 h_ => ?_
                    obtain ⟨rfl, E_⟩ := h_
                    replace Bg1 := Bg1.mod0 E_
                    replace E := E.then E_
                    refine sv (o_pickT (hk3) rfl rfl) rfl ?_
                    refine sv (o_mv rfl) rfl ?_
                    refine sg rfl (hk4) (o_fa0 fd33_10 rfl) rfl ?_
                    refine sg rfl (hk4) (o_ld sc9 rfl (Bg1.cell rfl)) rfl ?_
                    refine sgc rfl (hk4) (o_call ent27 rfl) (c_bytes _ e.hash 32 ho10) rfl fun v_ w20 h_ => ?_
                    obtain ⟨rfl, E_⟩ := h_
                    replace Bg1 := Bg1.mod0 E_
                    replace E := E.then E_
                    refine sv (o_pickT (hk4) rfl rfl) rfl ?_
                    refine sv (o_mv rfl) rfl ?_
                    refine sn rfl (fun e_ => absurd ((Bool.eq_false_iff.2 hk5).symm.trans e_) (by decide)) rfl ?_
                    refine sn rfl (fun e_ => absurd ((Bool.eq_false_iff.2 hk5).symm.trans e_) (by decide)) rfl ?_
                    refine sn rfl (fun e_ => absurd ((Bool.eq_false_iff.2 hk5).symm.trans e_) (by decide)) rfl ?_
                    refine sv (o_pickF (Bool.eq_false_iff.2 hk5) rfl rfl) rfl ?_
                    refine sv ((o_as rfl).to (v' := .bool e.fine2) (congrArg Value.bool (by rw [EV.fine2]; simp only [hk0, decide_eq_true hk1, decide_eq_true hk2, hk3, hk4, Bool.eq_false_iff.2 hk5, Bool.true_and, Bool.and_true, Bool.false_and, Bool.and_false, Bool.true_or, Bool.or_true, Bool.false_or, Bool.or_false, Bool.not_true, Bool.not_false]))) rfl ?_
                    refine l_nil ?_
                    refine WE.sub (l' := [(1, _), (5, _)]) ⟨rfl, rfl, trivial⟩ (e_K (J8  w20 ⟨Bg1, E⟩))
                · skip
                  refine c_region ?_
                  refine sv (o_mv rfl) rfl ?_
                  refine sv (o_mv rfl) rfl ?_
                  refine sg rfl (hk0) (o_fa0 fd33_5 rfl) rfl ?_
                  refine sg rfl (hk0) (o_fa fd25_0 rfl) rfl ?_
                  refine sg rfl (hk0) (o_ld sc3 rfl (Bg1.cell rfl)) rfl ?_
                  refine sg rfl (hk0) (o_eql rfl rfl) rfl ?_
                  refine sv (o_pickT (hk0) rfl rfl) rfl ?_
                  refine sv (o_mv rfl) rfl ?_
                  refine sg rfl (decide_eq_true hk1) (o_mv rfl) rfl ?_
                  refine sg rfl (decide_eq_true hk1) (o_eql rfl rfl) rfl ?_
                  refine sv (o_pickT (decide_eq_true hk1) rfl rfl) rfl ?_
                  refine sv (o_mv rfl) rfl ?_
                  refine sg rfl (decide_eq_true hk2) (o_fa0 fd33_8 rfl) rfl ?_
                  refine sg rfl (decide_eq_true hk2) (o_ld sc3 rfl (Bg1.cell rfl)) rfl ?_
                  refine sgc rfl (decide_eq_true hk2) (o_call ent26 rfl) (c_number _ _) rfl fun v_ w21 h_ => ?_
                  obtain ⟨rfl, E_⟩ := h_
                  replace Bg1 := Bg1.mod0 E_
                  replace E := E.then E_
                  refine sv (o_pickT (decide_eq_true hk2) rfl rfl) rfl ?_
                  refine sv (o_mv rfl) rfl ?_
                  refine sg rfl (hk3) (o_fa0 fd33_9 rfl) rfl ?_
                  refine sg rfl (hk3) (o_ld sc3 rfl (Bg1.cell rfl)) rfl ?_
                  refine sgc rfl (hk3) (o_call ent26 rfl) (c_number _ _) rfl fun v_ w22 h_ => ?_
                  obtain ⟨rfl, E_⟩ := h_
                  replace Bg1 := Bg1.mod0 E_
                  replace E := E.then E_
                  refine sv (o_pickT (hk3) rfl rfl) rfl ?_
                  refine sv (o_mv rfl) rfl ?_
                  refine sn rfl (fun e_ => absurd ((Bool.eq_false_iff.2 hk4).symm.trans e_) (by decide)) rfl ?_
                  refine sn rfl (fun e_ => absurd ((Bool.eq_false_iff.2 hk4).symm.trans e_) (by decide)) rfl ?_
                  refine sn rfl (fun e_ => absurd ((Bool.eq_false_iff.2 hk4).symm.trans e_) (by decide)) rfl ?_
                  refine sv (o_pickF (Bool.eq_false_iff.2 hk4) rfl rfl) rfl ?_
                  refine sv (o_mv rfl) rfl ?_
                  refine sn rfl (fun e_ => absurd ((rfl).symm.trans e_) (by decide)) rfl ?_
                  refine sn rfl (fun e_ => absurd ((rfl).symm.trans e_) (by decide)) rfl ?_
                  refine sn rfl (fun e_ => absurd ((rfl).symm.trans e_) (by decide)) rfl ?_
                  refine sv (o_pickF (rfl) rfl rfl) rfl ?_
                  refine sv ((o_as rfl).to (v' := .bool e.fine2) (congrArg Value.bool (by rw [EV.fine2]; simp only [hk0, decide_eq_true hk1, decide_eq_true hk2, hk3, Bool.eq_false_iff.2 hk4, Bool.true_and, Bool.and_true, Bool.false_and, Bool.and_false, Bool.true_or, Bool.or_true, Bool.false_or, Bool.or_false, Bool.not_true, Bool.not_false]))) rfl ?_
                  refine l_nil ?_
                  refine WE.sub (l' := [(1, _), (5, _)]) ⟨rfl, rfl, trivial⟩ (e_K (J8  w22 ⟨Bg1, E⟩))
              · skip
                refine c_region ?_
                refine sv (o_mv rfl) rfl ?_
                refine sv (o_mv rfl) rfl ?_
                refine sg rfl (hk0) (o_fa0 fd33_5 rfl) rfl ?_
                refine sg rfl (hk0) (o_fa fd25_0 rfl) rfl ?_
                refine sg rfl (hk0) (o_ld sc3 rfl (Bg1.cell rfl)) rfl ?_
                refine sg rfl (hk0) (o_eql rfl rfl) rfl ?_
                refine sv (o_pickT (hk0) rfl rfl) rfl ?_
                refine sv (o_mv rfl) rfl ?_
                refine sg rfl (decide_eq_true hk1) (o_mv rfl) rfl ?_
                refine sg rfl (decide_eq_true hk1) (o_eql rfl rfl) rfl ?_
                refine sv (o_pickT (decide_eq_true hk1) rfl rfl) rfl ?_
                refine sv (o_mv rfl) rfl ?_
                refine sg rfl (decide_eq_true hk2) (o_fa0 fd33_8 rfl) rfl ?_
                refine sg rfl (decide_eq_true hk2) (o_ld sc3 rfl (Bg1.cell rfl)) rfl ?_
                refine sgc rfl (decide_eq_true hk2) (o_call ent26 rfl) (c_number _ _) rfl fun v_ w23 h_ => ?_
                obtain ⟨rfl, E_⟩ := h_
                replace Bg1 := Bg1.mod0 E_
                replace E := E.then E_
                refine sv (o_pickT (decide_eq_true hk2) rfl rfl) rfl ?_
                refine sv (o_mv rfl) rfl ?_
                refine sn rfl (fun e_ => absurd ((Bool.eq_false_iff.2 hk3).symm.trans e_) (by decide)) rfl ?_
                refine sn rfl (fun e_ => absurd ((Bool.eq_false_iff.2 hk3).symm.trans e_) (by decide)) rfl ?_
                refine sn rfl (fun e_ => absurd ((Bool.eq_false_iff.2 hk3).symm.trans e_) (by decide)) rfl ?_
                refine sv (o_pickF (Bool.eq_false_iff.2 hk3) rfl rfl) rfl ?_
                refine sv (o_mv rfl) rfl ?_
                refine sn rfl (fun e_ => absurd ((rfl).symm.trans e_) (by decide)) rfl ?_
                refine sn rfl (fun e_ => absurd ((rfl).symm.trans e_) (by decide)) rfl ?_
                refine sn rfl (fun e_ => absurd ((rfl).symm.trans e_) (by decide)) rfl ?_
                refine sv (o_pickF (rfl) rfl rfl) rfl ?_
                refine sv (o_mv rfl) rfl ?_
                refine sn rfl (fun e_ => absurd ((rfl).symm.trans e_) (by decide)) rfl ?_
                refine sn rfl (fun e_ => absurd ((rfl).symm.trans e_) (by decide)) rfl ?_
                refine sn rfl (fun e_ => absurd ((rfl).symm.trans e_) (by decide)) rfl ?_
                refine sv (o_pickF (rfl) rfl rfl) rfl ?_
                refine sv ((o_as rfl).to (v' := .bool e.fine2) (congrArg Value.bool (by rw [EV.fine2]; simp only [hk0, decide_eq_true hk1, decide_eq_true hk2, Bool.eq_false_iff.2 hk3, Bool.true_and, Bool.and_true, Bool.false_and, Bool.and_false, Bool.true_or, Bool.or_true, Bool.false_or, Bool.or_false, Bool.not_true, Bool.not_false]))) rfl ?_
                refine l_nil ?_
                refine WE.sub (l' := [(1, _), (5, _)]) ⟨rfl, rfl, trivial⟩ (e_K (J8  w23 ⟨Bg1, E⟩))
            · skip
              refine c_region ?_
              refine sv (o_mv rfl) rfl ?_
              refine sv (o_mv rfl) rfl ?_
              refine sg rfl (hk0) (o_fa0 fd33_5 rfl) rfl ?_
              refine sg rfl (hk0) (o_fa fd25_0 rfl) rfl ?_
              refine sg rfl (hk0) (o_ld sc3 rfl (Bg1.cell rfl)) rfl ?_
              refine sg rfl (hk0) (o_eql rfl rfl) rfl ?_
              refine sv (o_pickT (hk0) rfl rfl) rfl ?_
              refine sv (o_mv rfl) rfl ?_
              refine sg rfl (decide_eq_true hk1) (o_mv rfl) rfl ?_
              refine sg rfl (decide_eq_true hk1) (o_eql rfl rfl) rfl ?_
              refine sv (o_pickT (decide_eq_true hk1) rfl rfl) rfl ?_
              refine sv (o_mv rfl) rfl ?_
              refine sn rfl (fun e_ => absurd ((decide_eq_false hk2).symm.trans e_) (by decide)) rfl ?_
              refine sn rfl (fun e_ => absurd ((decide_eq_false hk2).symm.trans e_) (by decide)) rfl ?_
              refine sn rfl (fun e_ => absurd ((decide_eq_false hk2).symm.trans e_) (by decide)) rfl ?_
              refine sv (o_pickF (decide_eq_false hk2) rfl rfl) rfl ?_
              refine sv (o_mv rfl) rfl ?_
              refine sn rfl (fun e_ => absurd ((rfl).symm.trans e_) (by decide)) rfl ?_
              refine sn rfl (fun e_ => absurd ((rfl).symm.trans e_) (by decide)) rfl ?_
              refine sn rfl (fun e_ => absurd ((rfl).symm.trans e_) (by decide)) rfl ?_
              refine sv (o_pickF (rfl) rfl rfl) rfl ?_
              refine sv (o_mv rfl) rfl ?_
              refine sn rfl (fun e_ => absurd ((rfl).symm.trans e_) (by decide)) rfl ?_
              refine sn rfl (fun e_ => absurd ((rfl).symm.trans e_) (by decide)) rfl ?_
              refine sn rfl (fun e_ => absurd ((rfl).symm.trans e_) (by decide)) rfl ?_
              refine sv (o_pickF (rfl) rfl rfl) rfl ?_
              refine sv (o_mv rfl) rfl ?_
              refine sn rfl (fun e_ => absurd ((rfl).symm.trans e_) (by decide)) rfl ?_
              refine sn rfl (fun e_ => absurd ((rfl).symm.trans e_) (by decide)) rfl ?_
              refine sn rfl (fun e_ => absurd ((rfl).symm.trans e_) (by decide)) rfl ?_
              refine sv (o_pickF (rfl) rfl rfl) rfl ?_
              refine sv ((o_as rfl).to (v' := .bool e.fine2) (congrArg Value.bool (by rw [EV.fine2]; simp only [hk0, decide_eq_true hk1, decide_eq_false hk2, Bool.true_and, Bool.and_true, Bool.false_and, Bool.and_false, Bool.true_or, Bool.or_true, Bool.false_or, Bool.or_false, Bool.not_true, Bool.not_false]))) rfl ?_
              refine l_nil ?_
              refine WE.sub (l' := [(1, _), (5, _)]) ⟨rfl, rfl, trivial⟩ (e_K (J8  w3 ⟨Bg1, E⟩))
          · skip
            refine c_region ?_
            refine sv (o_mv rfl) rfl ?_
            refine sv (o_mv rfl) rfl ?_
            refine sg rfl (hk0) (o_fa0 fd33_5 rfl) rfl ?_
            refine sg rfl (hk0) (o_fa fd25_0 rfl) rfl ?_
            refine sg rfl (hk0) (o_ld sc3 rfl (Bg1.cell rfl)) rfl ?_
            refine sg rfl (hk0) (o_eql rfl rfl) rfl ?_
            refine sv (o_pickT (hk0) rfl rfl) rfl ?_
            refine sv (o_mv rfl) rfl ?_
            refine sn rfl (fun e_ => absurd ((decide_eq_false hk1).symm.trans e_) (by decide)) rfl ?_
            refine sn rfl (fun e_ => absurd ((decide_eq_false hk1).symm.trans e_) (by decide)) rfl ?_
            refine sv (o_pickF (decide_eq_false hk1) rfl rfl) rfl ?_
            refine sv (o_mv rfl) rfl ?_
            refine sn rfl (fun e_ => absurd ((rfl).symm.trans e_) (by decide)) rfl ?_
            refine sn rfl (fun e_ => absurd ((rfl).symm.trans e_) (by decide)) rfl ?_
            refine sn rfl (fun e_ => absurd ((rfl).symm.trans e_) (by decide)) rfl ?_
            refine sv (o_pickF (rfl) rfl rfl) rfl ?_
            refine sv (o_mv rfl) rfl ?_
            refine sn rfl (fun e_ => absurd ((rfl).symm.trans e_) (by decide)) rfl ?_
            refine sn rfl (fun e_ => absurd ((rfl).symm.trans e_) (by decide)) rfl ?_
            refine sn rfl (fun e_ => absurd ((rfl).symm.trans e_) (by decide)) rfl ?_
            refine sv (o_pickF (rfl) rfl rfl) rfl ?_
            refine sv (o_mv rfl) rfl ?_
            refine sn rfl (fun e_ => absurd ((rfl).symm.trans e_) (by decide)) rfl ?_
            refine sn rfl (fun e_ => absurd ((rfl).symm.trans e_) (by decide)) rfl ?_
            refine sn rfl (fun e_ => absurd ((rfl).symm.trans e_) (by decide)) rfl ?_
            refine sv (o_pickF (rfl) rfl rfl) rfl ?_
            refine sv (o_mv rfl) rfl ?_
            refine sn rfl (fun e_ => absurd ((rfl).symm.trans e_) (by decide)) rfl ?_
            refine sn rfl (fun e_ => absurd ((rfl).symm.trans e_) (by decide)) rfl ?_
            refine sn rfl (fun e_ => absurd ((rfl).symm.trans e_) (by decide)) rfl ?_
            refine sv (o_pickF (rfl) rfl rfl) rfl ?_
            refine sv ((o_as rfl).to (v' := .bool e.fine2) (congrArg Value.bool (by rw [EV.fine2]; simp only [hk0, decide_eq_false hk1, Bool.true_and, Bool.and_true, Bool.false_and, Bool.and_false, Bool.true_or, Bool.or_true, Bool.false_or, Bool.or_false, Bool.not_true, Bool.not_false]))) rfl ?_
            refine l_nil ?_
            refine WE.sub (l' := [(1, _), (5, _)]) ⟨rfl, rfl, trivial⟩ (e_K (J8  w3 ⟨Bg1, E⟩))
        · skip
          refine c_region ?_
          refine sv (o_mv rfl) rfl ?_
          refine sv (o_mv rfl) rfl ?_
          refine sn rfl (fun e_ => absurd ((Bool.eq_false_iff.2 hk0).symm.trans e_) (by decide)) rfl ?_
          refine sn rfl (fun e_ => absurd ((Bool.eq_false_iff.2 hk0).symm.trans e_) (by decide)) rfl ?_
          refine sn rfl (fun e_ => absurd ((Bool.eq_false_iff.2 hk0).symm.trans e_) (by decide)) rfl ?_
          refine sn rfl (fun e_ => absurd ((Bool.eq_false_iff.2 hk0).symm.trans e_) (by decide)) rfl ?_
          refine sv (o_pickF (Bool.eq_false_iff.2 hk0) rfl rfl) rfl ?_
          refine sv (o_mv rfl) rfl ?_
          refine sn rfl (fun e_ => absurd ((rfl).symm.trans e_) (by decide)) rfl ?_
          refine sn rfl (fun e_ => absurd ((rfl).symm.trans e_) (by decide)) rfl ?_
          refine sv (o_pickF (rfl) rfl rfl) rfl ?_
          refine sv (o_mv rfl) rfl ?_
          refine sn rfl (fun e_ => absurd ((rfl).symm.trans e_) (by decide)) rfl ?_
          refine sn rfl (fun e_ => absurd ((rfl).symm.trans e_) (by decide)) rfl ?_
          refine sn rfl (fun e_ => absurd ((rfl).symm.trans e_) (by decide)) rfl ?_
          refine sv (o_pickF (rfl) rfl rfl) rfl ?_
          refine sv (o_mv rfl) rfl ?_
          refine sn rfl (fun e_ => absurd ((rfl).symm.trans e_) (by decide)) rfl ?_
          refine sn rfl (fun e_ => absurd ((rfl).symm.trans e_) (by decide)) rfl ?_
          refine sn rfl (fun e_ => absurd ((rfl).symm.trans e_) (by decide)) rfl ?_
          refine sv (o_pickF (rfl) rfl rfl) rfl ?_
          refine sv (o_mv rfl) rfl ?_
          refine sn rfl (fun e_ => absurd ((rfl).symm.trans e_) (by decide)) rfl ?_
          refine sn rfl (fun e_ => absurd ((rfl).symm.trans e_) (by decide)) rfl ?_
          refine sn rfl (fun e_ => absurd ((rfl).symm.trans e_) (by decide)) rfl ?_
          refine sv (o_pickF (rfl) rfl rfl) rfl ?_
          refine sv (o_mv rfl) rfl ?_
          refine sn rfl (fun e_ => absurd ((rfl).symm.trans e_) (by decide)) rfl ?_
          refine sn rfl (fun e_ => absurd ((rfl).symm.trans e_) (by decide)) rfl ?_
          refine sn rfl (fun e_ => absurd ((rfl).symm.trans e_) (by decide)) rfl ?_
          refine sv (o_pickF (rfl) rfl rfl) rfl ?_
          refine sv ((o_as rfl).to (v' := .bool e.fine2) (congrArg Value.bool (by rw [EV.fine2]; simp only [Bool.eq_false_iff.2 hk0, Bool.true_and, Bool.and_true, Bool.false_and, Bool.and_false, Bool.true_or, Bool.or_true, Bool.false_or, Bool.or_false, Bool.not_true, Bool.not_false]))) rfl ?_
          refine l_nil ?_
          refine WE.sub (l' := [(1, _), (5, _)]) ⟨rfl, rfl, trivial⟩ (e_K (J8  w3 ⟨Bg1, E⟩))
      by_cases hk0 : (namedB 33 qRoom e.room) = true
      · skip
        by_cases hk1 : (namedB 64 qUser e.snd) = true
        · skip
          by_cases hk2 : e.ty ≠ []
          · skip
            by_cases hk3 : (shortB e.ty) = true
            · skip
              by_cases hk4 : (shortB e.key) = true
              · skip
                by_cases hk5 : (e.st) = true
                · skip
                  refine c_region ?_
                  refine sv (o_fa0 fd33_0 rfl) rfl ?_
                  refine sv (o_ld sc9 rfl (Bg1.cell rfl)) rfl ?_
                  refine sc (o_call ent23 rfl) (c_room _ e.room hsm.1 (hM.mod0 E)) rfl fun v_ w24 h_ => ?_
                  obtain ⟨rfl, E_⟩ := h_
                  replace Bg1 := Bg1.mod0 E_
                  replace E := E.then E_
                  refine sv (o_mv rfl) rfl ?_
                  refine sg rfl (hk0) (o_fa0 fd33_1 rfl) rfl ?_
                  refine sg rfl (hk0) (o_ld sc9 rfl (Bg1.cell rfl)) rfl ?_
                  refine sgc rfl (hk0) (o_call ent24 rfl) (c_user _ e.snd hsm.2.1 (hM.mod0 E)) rfl fun v_ w25 h_ => ?_
                  obtain ⟨rfl, E_⟩ := h_
                  replace Bg1 := Bg1.mod0 E_
                  replace E := E.then E_
                  refine sv (o_pickT (hk0) rfl rfl) rfl ?_
                  refine sv (o_mv rfl) rfl ?_
                  refine sg rfl (hk1) (o_fa0 fd33_2 rfl) rfl ?_
                  refine sg rfl (hk1) (o_ld sc9 rfl (Bg1.cell rfl)) rfl ?_
                  refine sg rfl (hk1) (o_sne rfl rfl) rfl ?_
                  refine sv (o_pickT (hk1) rfl rfl) rfl ?_
                  refine sv (o_mv rfl) rfl ?_
                  refine sg rfl (decide_eq_true hk2) (o_fa0 fd33_2 rfl) rfl ?_
                  refine sg rfl (decide_eq_true hk2) (o_ld sc9 rfl (Bg1.cell rfl)) rfl ?_
                  refine sgc rfl (decide_eq_true hk2) (o_call ent25 rfl) (c_short11 _ _) rfl fun v_ w26 h_ => ?_
                  obtain ⟨rfl, E_⟩ := h_
                  replace Bg1 := Bg1.mod0 E_
                  replace E := E.then E_
                  refine sv (o_pickT (decide_eq_true hk2) rfl rfl) rfl ?_
                  refine sv (o_mv rfl) rfl ?_
                  refine sg rfl (hk3) (o_fa0 fd33_4 rfl) rfl ?_
                  refine sg rfl (hk3) (o_ld sc9 rfl (Bg1.cell rfl)) rfl ?_
                  refine sgc rfl (hk3) (o_call ent25 rfl) (c_short11 _ _) rfl fun v_ w27 h_ => ?_
                  obtain ⟨rfl, E_⟩ := h_
                  replace Bg1 := Bg1.mod0 E_
                  replace E := E.then E_
                  refine sv (o_pickT (hk3) rfl rfl) rfl ?_
                  refine sv (o_mv rfl) rfl ?_
                  refine sg rfl (hk4) (o_fa0 fd33_3 rfl) rfl ?_
                  refine sg rfl (hk4) (o_ld sc4 rfl (Bg1.cell rfl)) rfl ?_
                  refine sg rfl (hk4) (o_mv rfl) rfl ?_
                  refine sn rfl (fun e_ => absurd ((hk5).symm.trans e_) (by decide)) rfl ?_
                  refine sn rfl (fun e_ => absurd ((hk5).symm.trans e_) (by decide)) rfl ?_
                  refine sn rfl (fun e_ => absurd ((hk5).symm.trans e_) (by decide)) rfl ?_
                  refine sg rfl (hk4) (o_pickT (hk5) rfl rfl) rfl ?_
                  refine sv (o_pickT (hk4) rfl rfl) rfl ?_
                  refine sv ((o_as rfl).to (v' := .bool e.fine1) (congrArg Value.bool (by rw [EV.fine1]; simp only [hk0, hk1, decide_eq_true hk2, hk3, hk4, hk5, Bool.true_and, Bool.and_true, Bool.false_and, Bool.and_false, Bool.true_or, Bool.or_true, Bool.false_or, Bool.or_false, Bool.not_true, Bool.not_false]))) rfl ?_
                  refine l_nil ?_
                  refine WE.sub (l' := [(1, _), (4, _), (5, _)]) ⟨rfl, rfl, rfl, trivial⟩ (e_K (J7  w27 ⟨Bg1, E⟩))
                · skip
                  by_cases hk6 : e.key = []
                  · skip
                    refine c_region ?_
                    refine sv (o_fa0 fd33_0 rfl) rfl ?_
                    refine sv (o_ld sc9 rfl (Bg1.cell rfl)) rfl ?_
                    refine sc (o_call ent23 rfl) (c_room _ e.room hsm.1 (hM.mod0 E)) rfl fun v_ w28 h_ => ?_
                    obtain ⟨rfl, E_⟩ := h_
                    replace Bg1 := Bg1.mod0 E_
                    replace E := E.then E_
                    refine sv (o_mv rfl) rfl ?_
                    refine sg rfl (hk0) (o_fa0 fd33_1 rfl) rfl ?_
                    refine sg rfl (hk0) (o_ld sc9 rfl (Bg1.cell rfl)) rfl ?_
                    refine sgc rfl (hk0) (o_call ent24 rfl) (c_user _ e.snd hsm.2.1 (hM.mod0 E)) rfl fun v_ w29 h_ => ?_
                    obtain ⟨rfl, E_⟩ := h_
                    replace Bg1 := Bg1.mod0 E_
                    replace E := E.then E_
                    refine sv (o_pickT (hk0) rfl rfl) rfl ?_
                    refine sv (o_mv rfl) rfl ?_
                    refine sg rfl (hk1) (o_fa0 fd33_2 rfl) rfl ?_
                    refine sg rfl (hk1) (o_ld sc9 rfl (Bg1.cell rfl)) rfl ?_
                    refine sg rfl (hk1) (o_sne rfl rfl) rfl ?_
                    refine sv (o_pickT (hk1) rfl rfl) rfl ?_
                    refine sv (o_mv rfl) rfl ?_
                    refine sg rfl (decide_eq_true hk2) (o_fa0 fd33_2 rfl) rfl ?_
                    refine sg rfl (decide_eq_true hk2) (o_ld sc9 rfl (Bg1.cell rfl)) rfl ?_
                    refine sgc rfl (decide_eq_true hk2) (o_call ent25 rfl) (c_short11 _ _) rfl fun v_ w30 h_ => ?_
                    obtain ⟨rfl, E_⟩ := h_
                    replace Bg1 := Bg1.mod0 E_
                    replace E := E.then E_
                    refine sv (o_pickT (decide_eq_true hk2) rfl rfl) rfl ?_
                    refine sv (o_mv rfl) rfl ?_
                    refine sg rfl (hk3) (o_fa0 fd33_4 rfl) rfl ?_
                    refine sg rfl (hk3) (o_ld sc9 rfl (Bg1.cell rfl)) rfl ?_
                    refine sgc rfl (hk3) (o_call ent25 rfl) (c_short11 _ _) rfl fun v_ w31 h_ => ?_
                    obtain ⟨rfl, E_⟩ := h_
                    replace Bg1 := Bg1.mod0 E_
                    replace E := E.then E_
                    refine sv (o_pickT (hk3) rfl rfl) rfl ?_
                    refine sv (o_mv rfl) rfl ?_
                    refine sg rfl (hk4) (o_fa0 fd33_3 rfl) rfl ?_
                    refine sg rfl (hk4) (o_ld sc4 rfl (Bg1.cell rfl)) rfl ?_
                    refine sg rfl (hk4) (o_mv rfl) rfl ?_
                    refine sg rfl (Bool.eq_false_iff.2 hk5) (o_fa0 fd33_4 rfl) rfl ?_
                    refine sg rfl (Bool.eq_false_iff.2 hk5) (o_ld sc9 rfl (Bg1.cell rfl)) rfl ?_
                    refine sg rfl (Bool.eq_false_iff.2 hk5) (o_seq rfl rfl) rfl ?_
                    refine sg rfl (hk4) (o_pickF (Bool.eq_false_iff.2 hk5) rfl rfl) rfl ?_
                    refine sv (o_pickT (hk4) rfl rfl) rfl ?_
                    refine sv ((o_as rfl).to (v' := .bool e.fine1) (congrArg Value.bool (by rw [EV.fine1]; simp only [hk0, hk1, decide_eq_true hk2, hk3, hk4, Bool.eq_false_iff.2 hk5, decide_eq_true hk6, Bool.true_and, Bool.and_true, Bool.false_and, Bool.and_false, Bool.true_or, Bool.or_true, Bool.false_or, Bool.or_false, Bool.not_true, Bool.not_false]))) rfl ?_
                    refine l_nil ?_
                    refine WE.sub (l' := [(1, _), (4, _), (5, _)]) ⟨rfl, rfl, rfl, trivial⟩ (e_K (J7  w31 ⟨Bg1, E⟩))
                  · skip
                    refine c_region ?_
                    refine sv (o_fa0 fd33_0 rfl) rfl ?_
                    refine sv (o_ld sc9 rfl (Bg1.cell rfl)) rfl ?_
                    refine sc (o_call ent23 rfl) (c_room _ e.room hsm.1 (hM.mod0 E)) rfl fun v_ w32 h_ => ?_
                    obtain ⟨rfl, E_⟩ := h_
                    replace Bg1 := Bg1.mod0 E_
                    replace E := E.then E_
                    refine sv (o_mv rfl) rfl ?_
                    refine sg rfl (hk0) (o_fa0 fd33_1 rfl) rfl ?_
                    refine sg rfl (hk0) (o_ld sc9 rfl (Bg1.cell rfl)) rfl ?_
                    refine sgc rfl (hk0) (o_call ent24 rfl) (c_user _ e.snd hsm.2.1 (hM.mod0 E)) rfl fun v_ w33 h_ => ?_
                    obtain ⟨rfl, E_⟩ := h_
                    replace Bg1 := Bg1.mod0 E_
                    replace E := E.then E_
                    refine sv (o_pickT (hk0) rfl rfl) rfl ?_
                    refine sv (o_mv rfl) rfl ?_
                    refine sg rfl (hk1) (o_fa0 fd33_2 rfl) rfl ?_
                    refine sg rfl (hk1) (o_ld sc9 rfl (Bg1.cell rfl)) rfl ?_
                    refine sg rfl (hk1) (o_sne rfl rfl) rfl ?_
                    refine sv (o_pickT (hk1) rfl rfl) rfl ?_
                    refine sv (o_mv rfl) rfl ?_
                    refine sg rfl (decide_eq_true hk2) (o_fa0 fd33_2 rfl) rfl ?_
                    refine sg rfl (decide_eq_true hk2) (o_ld sc9 rfl (Bg1.cell rfl)) rfl ?_
                    refine sgc rfl (decide_eq_true hk2) (o_call ent25 rfl) (c_short11 _ _) rfl fun v_ w34 h_ => ?_
                    obtain ⟨rfl, E_⟩ := h_
                    replace Bg1 := Bg1.mod0 E_
                    replace E := E.then E_
                    refine sv (o_pickT (decide_eq_true hk2) rfl rfl) rfl ?_
                    refine sv (o_mv rfl) rfl ?_
                    refine sg rfl (hk3) (o_fa0 fd33_4 rfl) rfl ?_
                    refine sg rfl (hk3) (o_ld sc9 rfl (Bg1.cell rfl)) rfl ?_
                    refine sgc rfl (hk3) (o_call ent25 rfl) (c_short11 _ _) rfl fun v_ w35 h_ => ?_
                    obtain ⟨rfl, E_⟩ := h_
                    replace Bg1 := Bg1.mod0 E_
                    replace E := E.then E_
                    refine sv (o_pickT (hk3) rfl rfl) rfl ?_
                    refine sv (o_mv rfl) rfl ?_
                    refine sg rfl (hk4) (o_fa0 fd33_3 rfl) rfl ?_
                    refine sg rfl (hk4) (o_ld sc4 rfl (Bg1.cell rfl)) rfl ?_
                    refine sg rfl (hk4) (o_mv rfl) rfl ?_
                    refine sg rfl (Bool.eq_false_iff.2 hk5) (o_fa0 fd33_4 rfl) rfl ?_
                    refine sg rfl (Bool.eq_false_iff.2 hk5) (o_ld sc9 rfl (Bg1.cell rfl)) rfl ?_
                    refine sg rfl (Bool.eq_false_iff.2 hk5) (o_seq rfl rfl) rfl ?_
                    refine sg rfl (hk4) (o_pickF (Bool.eq_false_iff.2 hk5) rfl rfl) rfl ?_
                    refine sv (o_pickT (hk4) rfl rfl) rfl ?_
                    refine sv ((o_as rfl).to (v' := .bool e.fine1) (congrArg Value.bool (by rw [EV.fine1]; simp only [hk0, hk1, decide_eq_true hk2, hk3, hk4, Bool.eq_false_iff.2 hk5, decide_eq_false hk6, Bool.true_and, Bool.and_true, Bool.false_and, Bool.and_false, Bool.true_or, Bool.or_true, Bool.false_or, Bool.or_false, Bool.not_true, Bool.not_false]))) rfl ?_
                    refine l_nil ?_
                    refine WE.sub (l' := [(1, _), (4, _), (5, _)]) ⟨rfl, rfl, rfl, trivial⟩ (e_K (J7  w35 ⟨Bg1, E⟩))
              · skip
                refine c_region ?_
                refine sv (o_fa0 fd33_0 rfl) rfl ?_
                refine sv (o_ld sc9 rfl (Bg1.cell rfl)) rfl ?_
                refine sc (o_call ent23 rfl) (c_room _ e.room hsm.1 (hM.mod0 E)) rfl fun v_ w36 h_ => ?_
                obtain ⟨rfl, E_⟩ := h_
                replace Bg1 := Bg1.mod0 E_
                replace E := E.then E_
                refine sv (o_mv rfl) rfl ?_
                refine sg rfl (hk0) (o_fa0 fd33_1 rfl) rfl ?_
                refine sg rfl (hk0) (o_ld sc9 rfl (Bg1.cell rfl)) rfl ?_
                refine sgc rfl (hk0) (o_call ent24 rfl) (c_user _ e.snd hsm.2.1 (hM.mod0 E)) rfl fun v_ w37 h_ => ?_
                obtain ⟨rfl, E_⟩ := h_
                replace Bg1 := Bg1.mod0 E_
                replace E := E.then E_
                refine sv (o_pickT (hk0) rfl rfl) rfl ?_
                refine sv (o_mv rfl) rfl ?_
                refine sg rfl (hk1) (o_fa0 fd33_2 rfl) rfl ?_
                refine sg rfl (hk1) (o_ld sc9 rfl (Bg1.cell rfl)) rfl ?_
                refine sg rfl (hk1) (o_sne rfl rfl) rfl ?_
                refine sv (o_pickT (hk1) rfl rfl) rfl ?_
                refine sv (o_mv rfl) rfl ?_
                refine sg rfl (decide_eq_true hk2) (o_fa0 fd33_2 rfl) rfl ?_
                refine sg rfl (decide_eq_true hk2) (o_ld sc9 rfl (Bg1.cell rfl)) rfl ?_
                refine sgc rfl (decide_eq_true hk2) (o_call ent25 rfl) (c_short11 _ _) rfl fun v_ w38 h_ => ?_
                obtain ⟨rfl, E_⟩ := h_
                replace Bg1 := Bg1.mod0 E_
                replace E := E.then E_
                refine sv (o_pickT (decide_eq_true hk2) rfl rfl) rfl ?_
                refine sv (o_mv rfl) rfl ?_
                refine sg rfl (hk3) (o_fa0 fd33_4 rfl) rfl ?_
                refine sg rfl (hk3) (o_ld sc9 rfl (Bg1.cell rfl)) rfl ?_
                refine sgc rfl (hk3) (o_call ent25 rfl) (c_short11 _ _) rfl fun v_ w39 h_ => ?_
                obtain ⟨rfl, E_⟩ := h_
                replace Bg1 := Bg1.mod0 E_
                replace E := E.then E_
                refine sv (o_pickT (hk3) rfl rfl) rfl ?_
                refine sv (o_mv rfl) rfl ?_
                refine sn rfl (fun e_ => absurd ((Bool.eq_false_iff.2 hk4).symm.trans e_) (by decide)) rfl ?_
                refine sn rfl (fun e_ => absurd ((Bool.eq_false_iff.2 hk4).symm.trans e_) (by decide)) rfl ?_
                refine sn rfl (fun e_ => absurd ((Bool.eq_false_iff.2 hk4).symm.trans e_) (by decide)) rfl ?_
                refine snu rfl rfl rfl ?_
                refine snu rfl rfl rfl ?_
                refine snu rfl rfl rfl ?_
                refine sn rfl (fun e_ => absurd ((Bool.eq_false_iff.2 hk4).symm.trans e_) (by decide)) rfl ?_
                refine sv (o_pickF (Bool.eq_false_iff.2 hk4) rfl rfl) rfl ?_
                refine sv ((o_as rfl).to (v' := .bool e.fine1) (congrArg Value.bool (by rw [EV.fine1]; simp only [hk0, hk1, decide_eq_true hk2, hk3, Bool.eq_false_iff.2 hk4, Bool.true_and, Bool.and_true, Bool.false_and, Bool.and_false, Bool.true_or, Bool.or_true, Bool.false_or, Bool.or_false, Bool.not_true, Bool.not_false]))) rfl ?_
                refine l_nil ?_
                refine WE.sub (l' := [(1, _), (4, _), (5, _)]) ⟨rfl, rfl, rfl, trivial⟩ (e_K (J7  w39 ⟨Bg1, E⟩))
            · skip
              refine c_region ?_
              refine sv (o_fa0 fd33_0 rfl) rfl ?_
              refine sv (o_ld sc9 rfl (Bg1.cell rfl)) rfl ?_
              refine sc (o_call ent23 rfl) (c_room _ e.room hsm.1 (hM.mod0 E)) rfl fun v_ w40 h_ => ?_
              obtain ⟨rfl, E_⟩ := h_
              replace Bg1 := Bg1.mod0 E_
              replace E := E.then E_
              refine sv (o_mv rfl) rfl ?_
              refine sg rfl (hk0) (o_fa0 fd33_1 rfl) rfl ?_
              refine sg rfl (hk0) (o_ld sc9 rfl (Bg1.cell rfl)) rfl ?_
              refine sgc rfl (hk0) (o_call ent24 rfl) (c_user _ e.snd hsm.2.1 (hM.mod0 E)) rfl fun v_ w41 h_ => ?_
              obtain ⟨rfl, E_⟩ := h_
              replace Bg1 := Bg1.mod0 E_
              replace E := E.then E_
              refine sv (o_pickT (hk0) rfl rfl) rfl ?_
              refine sv (o_mv rfl) rfl ?_
              refine sg rfl (hk1) (o_fa0 fd33_2 rfl) rfl ?_
              refine sg rfl (hk1) (o_ld sc9 rfl (Bg1.cell rfl)) rfl ?_
              refine sg rfl (hk1) (o_sne rfl rfl) rfl ?_
              refine sv (o_pickT (hk1) rfl rfl) rfl ?_
              refine sv (o_mv rfl) rfl ?_
              refine sg rfl (decide_eq_true hk2) (o_fa0 fd33_2 rfl) rfl ?_
              refine sg rfl (decide_eq_true hk2) (o_ld sc9 rfl (Bg1.cell rfl)) rfl ?_
              refine sgc rfl (decide_eq_true hk2) (o_call ent25 rfl) (c_short11 _ _) rfl fun v_ w42 h_ => ?_
              obtain ⟨rfl, E_⟩ := h_
              replace Bg1 := Bg1.mod0 E_
              replace E := E.then E_
              refine sv (o_pickT (decide_eq_true hk2) rfl rfl) rfl ?_
              refine sv (o_mv rfl) rfl ?_
              refine sn rfl (fun e_ => absurd ((Bool.eq_false_iff.2 hk3).symm.trans e_) (by decide)) rfl ?_
              refine sn rfl (fun e_ => absurd ((Bool.eq_false_iff.2 hk3).symm.trans e_) (by decide)) rfl ?_
              refine sn rfl (fun e_ => absurd ((Bool.eq_false_iff.2 hk3).symm.trans e_) (by decide)) rfl ?_
              refine sv (o_pickF (Bool.eq_false_iff.2 hk3) rfl rfl) rfl ?_
              refine sv (o_mv rfl) rfl ?_
              refine sn rfl (fun e_ => absurd ((rfl).symm.trans e_) (by decide)) rfl ?_
              refine sn rfl (fun e_ => absurd ((rfl).symm.trans e_) (by decide)) rfl ?_
              refine sn rfl (fun e_ => absurd ((rfl).symm.trans e_) (by decide)) rfl ?_
              refine snu rfl rfl rfl ?_
              refine snu rfl rfl rfl ?_
              refine snu rfl rfl rfl ?_
              refine sn rfl (fun e_ => absurd ((rfl).symm.trans e_) (by decide)) rfl ?_
              refine sv (o_pickF (rfl) rfl rfl) rfl ?_
              refine sv ((o_as rfl).to (v' := .bool e.fine1) (congrArg Value.bool (by rw [EV.fine1]; simp only [hk0, hk1, decide_eq_true hk2, Bool.eq_false_iff.2 hk3, Bool.true_and, Bool.and_true, Bool.false_and, Bool.and_false, Bool.true_or, Bool.or_true, Bool.false_or, Bool.or_false, Bool.not_true, Bool.not_false]))) rfl ?_
              refine l_nil ?_
              refine WE.sub (l' := [(1, _), (4, _), (5, _)]) ⟨rfl, rfl, rfl, trivial⟩ (e_K (J7  w42 ⟨Bg1, E⟩))
          · skip
            refine c_region ?_
            refine sv (o_fa0 fd33_0 rfl) rfl ?_
            refine sv (o_ld sc9 rfl (Bg1.cell rfl)) rfl ?_
            refine sc (o_call ent23 rfl) (c_room _ e.room hsm.1 (hM.mod0 E)) rfl fun v_ w43 h_ => ?_
            obtain ⟨rfl, E_⟩ := h_
            replace Bg1 := Bg1.mod0 E_
            replace E := E.then E_
            refine sv (o_mv rfl) rfl ?_
            refine sg rfl (hk0) (o_fa0 fd33_1 rfl) rfl ?_
            refine sg rfl (hk0) (o_ld sc9 rfl (Bg1.cell rfl)) rfl ?_
            refine sgc rfl (hk0) (o_call ent24 rfl) (c_user _ e.snd hsm.2.1 (hM.mod0 E)) rfl fun v_ w44 h_ => ?_
            obtain ⟨rfl, E_⟩ := h_
            replace Bg1 := Bg1.mod0 E_
            replace E := E.then E_
            refine sv (o_pickT (hk0) rfl rfl) rfl ?_
            refine sv (o_mv rfl) rfl ?_
            refine sg rfl (hk1) (o_fa0 fd33_2 rfl) rfl ?_
            refine sg rfl (hk1) (o_ld sc9 rfl (Bg1.cell rfl)) rfl ?_
            refine sg rfl (hk1) (o_sne rfl rfl) rfl ?_
            refine sv (o_pickT (hk1) rfl rfl) rfl ?_
            refine sv (o_mv rfl) rfl ?_
            refine sn rfl (fun e_ => absurd ((decide_eq_false hk2).symm.trans e_) (by decide)) rfl ?_
            refine sn rfl (fun e_ => absurd ((decide_eq_false hk2).symm.trans e_) (by decide)) rfl ?_
            refine sn rfl (fun e_ => absurd ((decide_eq_false hk2).symm.trans e_) (by decide)) rfl ?_
            refine sv (o_pickF (decide_eq_false hk2) rfl rfl) rfl ?_
            refine sv (o_mv rfl) rfl ?_
            refine sn rfl (fun e_ => absurd ((rfl).symm.trans e_) (by decide)) rfl ?_
            refine sn rfl (fun e_ => absurd ((rfl).symm.trans e_) (by decide)) rfl ?_
            refine sn rfl (fun e_ => absurd ((rfl).symm.trans e_) (by decide)) rfl ?_
            refine sv (o_pickF (rfl) rfl rfl) rfl ?_
            refine sv (o_mv rfl) rfl ?_
            refine sn rfl (fun e_ => absurd ((rfl).symm.trans e_) (by decide)) rfl ?_
            refine sn rfl (fun e_ => absurd ((rfl).symm.trans e_) (by decide)) rfl ?_
            refine sn rfl (fun e_ => absurd ((rfl).symm.trans e_) (by decide)) rfl ?_
            refine snu rfl rfl rfl ?_
            refine snu rfl rfl rfl ?_
            refine snu rfl rfl rfl ?_
            refine sn rfl (fun e_ => absurd ((rfl).symm.trans e_) (by decide)) rfl ?_
            refine sv (o_pickF (rfl) rfl rfl) rfl ?_
            refine sv ((o_as rfl).to (v' := .bool e.fine1) (congrArg Value.bool (by rw [EV.fine1]; simp only [hk0, hk1, decide_eq_false hk2, Bool.true_and, Bool.and_true, Bool.false_and, Bool.and_false, Bool.true_or, Bool.or_true, Bool.false_or, Bool.or_false, Bool.not_true, Bool.not_false]))) rfl ?_
            refine l_nil ?_
            refine WE.sub (l' := [(1, _), (4, _), (5, _)]) ⟨rfl, rfl, rfl, trivial⟩ (e_K (J7  w44 ⟨Bg1, E⟩))
        · skip
          refine c_region ?_
          refine sv (o_fa0 fd33_0 rfl) rfl ?_
          refine sv (o_ld sc9 rfl (Bg1.cell rfl)) rfl ?_
          refine sc (o_call ent23 rfl) (c_room _ e.room hsm.1 (hM.mod0 E)) rfl fun v_ w45 h_ => ?_
          obtain ⟨rfl, E_⟩ := h_
          replace Bg1 := Bg1.mod0 E_
          replace E := E.then E_
          refine sv (o_mv rfl) rfl ?_
          refine sg rfl (hk0) (o_fa0 fd33_1 rfl) rfl ?_
          refine sg rfl (hk0) (o_ld sc9 rfl (Bg1.cell rfl)) rfl ?_
          refine sgc rfl (hk0) (o_call ent24 rfl) (c_user _ e.snd hsm.2.1 (hM.mod0 E)) rfl fun v_ w46 h_ => ?_
          obtain ⟨rfl, E_⟩ := h_
          replace Bg1 := Bg1.mod0 E_
          replace E := E.then E_
          refine sv (o_pickT (hk0) rfl rfl) rfl ?_
          refine sv (o_mv rfl) rfl ?_
          refine sn rfl (fun e_ => absurd ((Bool.eq_false_iff.2 hk1).symm.trans e_) (by decide)) rfl ?_
          refine sn rfl (fun e_ => absurd ((Bool.eq_false_iff.2 hk1).symm.trans e_) (by decide)) rfl ?_
          refine sn rfl (fun e_ => absurd ((Bool.eq_false_iff.2 hk1).symm.trans e_) (by decide)) rfl ?_
          refine sv (o_pickF (Bool.eq_false_iff.2 hk1) rfl rfl) rfl ?_
          refine sv (o_mv rfl) rfl ?_
          refine sn rfl (fun e_ => absurd ((rfl).symm.trans e_) (by decide)) rfl ?_
          refine sn rfl (fun e_ => absurd ((rfl).symm.trans e_) (by decide)) rfl ?_
          refine sn rfl (fun e_ => absurd ((rfl).symm.trans e_) (by decide)) rfl ?_
          refine sv (o_pickF (rfl) rfl rfl) rfl ?_
          refine sv (o_mv rfl) rfl ?_
          refine sn rfl (fun e_ => absurd ((rfl).symm.trans e_) (by decide)) rfl ?_
          refine sn rfl (fun e_ => absurd ((rfl).symm.trans e_) (by decide)) rfl ?_
          refine sn rfl (fun e_ => absurd ((rfl).symm.trans e_) (by decide)) rfl ?_
          refine sv (o_pickF (rfl) rfl rfl) rfl ?_
          refine sv (o_mv rfl) rfl ?_
          refine sn rfl (fun e_ => absurd ((rfl).symm.trans e_) (by decide)) rfl ?_
          refine sn rfl (fun e_ => absurd ((rfl).symm.trans e_) (by decide)) rfl ?_
          refine sn rfl (fun e_ => absurd ((rfl).symm.trans e_) (by decide)) rfl ?_
          refine snu rfl rfl rfl ?_
          refine snu rfl rfl rfl ?_
          refine snu rfl rfl rfl ?_
          refine sn rfl (fun e_ => absurd ((rfl).symm.trans e_) (by decide)) rfl ?_
          refine sv (o_pickF (rfl) rfl rfl) rfl ?_
          refine sv ((o_as rfl).to (v' := .bool e.fine1) (congrArg Value.bool (by rw [EV.fine1]; simp only [hk0, Bool.eq_false_iff.2 hk1, Bool.true_and, Bool.and_true, Bool.false_and, Bool.and_false, Bool.true_or, Bool.or_true, Bool.false_or, Bool.or_false, Bool.not_true, Bool.not_false]))) rfl ?_
          refine l_nil ?_
          refine WE.sub (l' := [(1, _), (4, _), (5, _)]) ⟨rfl, rfl, rfl, trivial⟩ (e_K (J7  w46 ⟨Bg1, E⟩))
      · skip
        refine c_region ?_
        refine sv (o_fa0 fd33_0 rfl) rfl ?_
        refine sv (o_ld sc9 rfl (Bg1.cell rfl)) rfl ?_
        refine sc (o_call ent23 rfl) (c_room _ e.room hsm.1 (hM.mod0 E)) rfl fun v_ w47 h_ => ?_
        obtain ⟨rfl, E_⟩ := h_
        replace Bg1 := Bg1.mod0 E_
        replace E := E.then E_
        refine sv (o_mv rfl) rfl ?_
        refine sn rfl (fun e_ => absurd ((Bool.eq_false_iff.2 hk0).symm.trans e_) (by decide)) rfl ?_
        refine sn rfl (fun e_ => absurd ((Bool.eq_false_iff.2 hk0).symm.trans e_) (by decide)) rfl ?_
        refine sn rfl (fun e_ => absurd ((Bool.eq_false_iff.2 hk0).symm.trans e_) (by decide)) rfl ?_
        refine sv (o_pickF (Bool.eq_false_iff.2 hk0) rfl rfl) rfl ?_
        refine sv (o_mv rfl) rfl ?_
        refine sn rfl (fun e_ => absurd ((rfl).symm.trans e_) (by decide)) rfl ?_
        refine sn rfl (fun e_ => absurd ((rfl).symm.trans e_) (by decide)) rfl ?_
        refine sn rfl (fun e_ => absurd ((rfl).symm.trans e_) (by decide)) rfl ?_
        refine sv (o_pickF (rfl) rfl rfl) rfl ?_
        refine sv (o_mv rfl) rfl ?_
        refine sn rfl (fun e_ => absurd ((rfl).symm.trans e_) (by decide)) rfl ?_
        refine sn rfl (fun e_ => absurd ((rfl).symm.trans e_) (by decide)) rfl ?_
        refine sn rfl (fun e_ => absurd ((rfl).symm.trans e_) (by decide)) rfl ?_
        refine sv (o_pickF (rfl) rfl rfl) rfl ?_
        refine sv (o_mv rfl) rfl ?_
        refine sn rfl (fun e_ => absurd ((rfl).symm.trans e_) (by decide)) rfl ?_
        refine sn rfl (fun e_ => absurd ((rfl).symm.trans e_) (by decide)) rfl ?_
        refine sn rfl (fun e_ => absurd ((rfl).symm.trans e_) (by decide)) rfl ?_
        refine sv (o_pickF (rfl) rfl rfl) rfl ?_
        refine sv (o_mv rfl) rfl ?_
        refine sn rfl (fun e_ => absurd ((rfl).symm.trans e_) (by decide)) rfl ?_
        refine sn rfl (fun e_ => absurd ((rfl).symm.trans e_) (by decide)) rfl ?_
        refine sn rfl (fun e_ => absurd ((rfl).symm.trans e_) (by decide)) rfl ?_
        refine snu rfl rfl rfl ?_
        refine snu rfl rfl rfl ?_
        refine snu rfl rfl rfl ?_
        refine sn rfl (fun e_ => absurd ((rfl).symm.trans e_) (by decide)) rfl ?_
        refine sv (o_pickF (rfl) rfl rfl) rfl ?_
        refine sv ((o_as rfl).to (v' := .bool e.fine1) (congrArg Value.bool (by rw [EV.fine1]; simp only [Bool.eq_false_iff.2 hk0, Bool.true_and, Bool.and_true, Bool.false_and, Bool.and_false, Bool.true_or, Bool.or_true, Bool.false_or, Bool.or_false, Bool.not_true, Bool.not_false]))) rfl ?_
        refine l_nil ?_
        refine WE.sub (l' := [(1, _), (4, _), (5, _)]) ⟨rfl, rfl, rfl, trivial⟩ (e_K (J7  w47 ⟨Bg1, E⟩))

end Go.Proofs.YtkhbnhdlelmbnaaDoor.V
