/-
  A part of the proof: walks of functions. No condition of its own.
-/
import Derived.Test.YtknndpjacklkeaaGreatDoorM15
import Derived.Test.YtknndpjacklkeaaGreatDoorM10
import Derived.Test.YtknndpjacklkeaaGreatDoorM16
import Derived.Test.YtknndpjacklkeaaGreatDoorM4
set_option linter.unusedVariables false
set_option linter.unusedSimpArgs false
set_option maxRecDepth 10000
namespace Go.Proofs.YtknndpjacklkeaaGreatDoor.V
open Go Go.Proofs
theorem ent122 : Ent Tryz.prog 122 := Ent.of Tryz.func122 (by kernel_rfl) (by kernel_rfl)
theorem ent19 : Ent Tryz.prog 19 := Ent.of Tryz.func19 (by kernel_rfl) (by kernel_rfl)
theorem ent123 : Ent Tryz.prog 123 := Ent.of Tryz.func123 (by kernel_rfl) (by kernel_rfl)
theorem fd48_8 : fdB Tryz.prog 48 8 13 1 = true := by kernel_rfl
theorem ent119 : Ent Tryz.prog 119 := Ent.of Tryz.func119 (by kernel_rfl) (by kernel_rfl)
theorem fd48_9 : fdB Tryz.prog 48 9 14 1 = true := by kernel_rfl
theorem ent121 : Ent Tryz.prog 121 := Ent.of Tryz.func121 (by kernel_rfl) (by kernel_rfl)
theorem ent116 : Ent Tryz.prog 116 := Ent.of Tryz.func116 (by kernel_rfl) (by kernel_rfl)
theorem ent117 : Ent Tryz.prog 117 := Ent.of Tryz.func117 (by kernel_rfl) (by kernel_rfl)
theorem ent118 : Ent Tryz.prog 118 := Ent.of Tryz.func118 (by kernel_rfl) (by kernel_rfl)
theorem fd48_3 : fdB Tryz.prog 48 3 3 1 = true := by kernel_rfl
theorem ent66 : Ent Tryz.prog 66 := Ent.of Tryz.func66 (by kernel_rfl) (by kernel_rfl)
theorem ent68 : Ent Tryz.prog 68 := Ent.of Tryz.func68 (by kernel_rfl) (by kernel_rfl)
theorem ent69 : Ent Tryz.prog 69 := Ent.of Tryz.func69 (by kernel_rfl) (by kernel_rfl)
theorem ent65 : Ent Tryz.prog 65 := Ent.of Tryz.func65 (by kernel_rfl) (by kernel_rfl)
theorem ent70 : Ent Tryz.prog 70 := Ent.of Tryz.func70 (by kernel_rfl) (by kernel_rfl)
theorem ent71 : Ent Tryz.prog 71 := Ent.of Tryz.func71 (by kernel_rfl) (by kernel_rfl)
theorem ent72 : Ent Tryz.prog 72 := Ent.of Tryz.func72 (by kernel_rfl) (by kernel_rfl)
theorem c_cloneS (w : World) (xs : List Str) (ad : Option Addr) (c : Nat) (R : Rep [] w (strD xs) (.slice ad xs.length c)) (hn : xs.length ≤ 1000000) : Calls Tryz.prog 122 [.slice ad xs.length c].toArray w (Ret fun u w' => Own w' 9 1 u xs.length ((xs.map fun s => [S s]).flatten) ∧ (∀ x ∈ ob u, w.heap.size ≤ x) ∧ Mod [] w w') := by
 refine enter Tryz.func122 rfl rfl rfl (l := [(0, _)]) ⟨rfl, trivial⟩ ?_
 have E := Mod.refl [] w
 have hne : ad = none → xs = [] := fun h => by subst h; exact flat_none R
 refine Cq fun K1 hK1 => Cr (Za rfl (Ln (e_K (hK1 _ _ _ _ (Cq fun K2 hK2 => Cq fun K3 hK3 => Cr (Zm rfl (Sv (o_neqs Tryz.underlying45 rfl rfl) (Ln (e_K (hK3 _ _ _ _ ?_))))))))))
 refine c_cond rfl (fun h4 => ?_) (fun h4 => ?_)
 ·have hx0 : xs = [] := hne (by cases ad with | none => rfl | some a => simp at h4)
  subst hx0
  exact Cq fun K4 hK4 => Cr (Za rfl (Ln (e_K (hK4 _ _ _ _ (cR (eT (by simp) (ret1 rfl rfl ⟨by simpa using Own.nil _ 9 1, by simp [ob], E⟩)))))))
 ·refine cK (e_K (hK2 _ _ _ _ (Cq fun K5 hK5 => Cr (s_bslice (cs := []) sl45 zv9 rfl rfl rfl (by decide) rfl fun g1 w1 N1 => ?_))))
  have Lg1_E := N1.le E
  replace E := E.then N1.mod
  have Bg1 := N1.blk
  refine Zm rfl (s_append sl45 rfl rfl (Own.all (c := 0) (cs := []) Bg1 rfl (by omega)) (Src.flat Tryz.underlying45 (R.to0 E)) (by decide) (by omega) (by omega) rfl fun v1 w2 A1 => ?_)
  replace E := E.trans' A1.mod (fun x hx => .inr (by simp [ob] at hx; subst hx; exact Lg1_E))
  have L1 : ∀ x ∈ ob v1, w.heap.size ≤ x := fun x hx => (A1.ob_ x hx).elim (fun h => by simp [ob] at h; subst h; exact Lg1_E) (fun h => Nat.le_trans (Nat.le_trans Lg1_E (Nat.le_of_lt Bg1.lt)) h)
  exact Za rfl (Ln (e_K (hK5 _ _ _ _ (cR (ret1 rfl rfl ⟨A1.own.same (by simp) (by simp), L1, E⟩)))))

theorem c_check (w : World) (e : EV) (us : List Value) (R : Reps [] w e.D us) (ho : e.ok) (hsm : e.lens) (hT : Tab w) (hM : MaxL w) : Calls Tryz.prog 64 [.agg us.toArray].toArray w (Ret fun u w' => u = .int .i64 e.chk ∧ Mod [] w w') := by
 refine enter Tryz.func64 rfl rfl rfl (l := [(0, _)]) ⟨rfl, trivial⟩ ?_
 have E := Mod.refl [] w
 obtain ⟨al, cl, am, cm, ap, cp, aa, ca, aS, cS, rfl, Rc, Rp, Ra, Rs⟩ := EV.cells17 R
 obtain ⟨ho1, ho2, ho3, ho4, ho5, ho6, ho7, ho8, ho9, ho10, ho11, ho12⟩ := ho
 have hslen : ∀ s ∈ e.sigs, s.srv.length < 4294967281 ∧ s.key.length ≤ 140737488351232 ∧ s.sig.length ≤ 140737488351232 := fun s hs => ⟨hsm.2.2 s hs, (ho11 s hs).2.1, (ho11 s hs).2.2⟩
 refine Cq fun K1 hK1 => Cr (s_box rfl rfl rfl fun g1 w1 N1 => ?_)
 have Lg1_E := N1.le E
 replace E := E.then N1.mod
 have Bg1 := N1.blk
 refine Za rfl (Ln (e_K (hK1 _ _ _ _ (Cq fun K2 hK2 => Cq fun K3 hK3 => Cr (Sv (oA0 fd48_6 rfl) (Sv (oL sc45 rfl (Bg1.cell rfl)) (Sv (o_len Tryz.underlying45 rfl) (Sv (o_gtr rfl rfl) ?_))))))))
 refine bD (fun hk0 : (e.prev.length : Int) > 20 => ?_) (fun hk0 => ?_)
 ·refine tW 6 rfl (Ln (e_K (hK3 _ _ _ _ (c_true rfl ?_))))
  have hmany : 20 < e.prev.length ∨ 10 < e.auth.length := by omega
  exact Cq fun K4 hK4 => Cr (Za rfl (Ln (e_K (hK4 _ _ _ _ (cR (eT (by simp) (ret1 rfl rfl ⟨by rw [EV.chk_many hmany], E⟩)))))))
 ·refine Zm rfl (Sg rfl rfl (oA0 fd48_7 rfl) (Sg rfl rfl (oL sc45 rfl (Bg1.cell rfl)) (Sg rfl rfl (o_len Tryz.underlying45 rfl) (Sg rfl rfl (o_gtr rfl rfl) ?_))))
  refine bD (fun hk1 : (e.auth.length : Int) > 10 => ?_) (fun hk1 => ?_)
  ·refine Sv (oF rfl rfl rfl) (Ln (e_K (hK3 _ _ _ _ (c_true rfl ?_))))
   have hmany : 20 < e.prev.length ∨ 10 < e.auth.length := by omega
   exact Cq fun K5 hK5 => Cr (Za rfl (Ln (e_K (hK5 _ _ _ _ (cR (eT (by simp) (ret1 rfl rfl ⟨by rw [EV.chk_many hmany], E⟩)))))))
  ·refine Sv (oF rfl rfl rfl) (Ln (e_K (hK3 _ _ _ _ (c_false rfl ?_))))
   have hfew : ¬ (20 < e.prev.length ∨ 10 < e.auth.length) := by omega
   refine cK (e_K (hK2 _ _ _ _ (Cq fun K6 hK6 => Cr (Sv (oA0 fd48_5 rfl) (Sv (o_lda (vs := [_, _, _, _, _, _]) ag25 rfl rfl (Bg1.cs rfl)) (sc (oC ent19 rfl) (c_canon _ e.con _ (Rc.to0 E) (hT.mod E (by simp))) rfl fun v_ w2 h_ => ?_))))))
   obtain ⟨rfl, E_⟩ := h_
   replace Bg1 := Bg1.mod0 E_
   replace E := E.then E_
   refine tW 5 rfl (Ln (e_K (hK6 _ _ _ _ (Cq fun K7 hK7 => ?_))))
   have J7 : ∀  (w1 : World), Blk w1 g1 48 [S e.room, S e.snd, S e.ty, .bool e.st, S e.key, .int .i64 e.con.kind, .bool e.con.is, .int .i64 e.con.num, S e.con.str, .slice al e.con.list.length cl, .slice am e.con.map.length cm, .slice ap e.prev.length cp, .slice aa e.auth.length ca, .int .i64 e.dep, .int .i64 e.time, S e.hash, .slice aS e.sigs.length cS] ∧ Mod [] w w1 → ∀ a, Has 106 [] [(1, .pointer (some ⟨g1, 0, none⟩)), (4, .int .i64 (ern (e.con.wr 0 []))), (5, .bool e.fine1)] a → K7 a w1 := by
    intro  w3 hI
    obtain ⟨Bg1, E⟩ := hI
    refine hK7 _ _ _ _ (Cq fun K8 hK8 => ?_)
    have J8 : ∀  (w1 : World), Blk w1 g1 48 [S e.room, S e.snd, S e.ty, .bool e.st, S e.key, .int .i64 e.con.kind, .bool e.con.is, .int .i64 e.con.num, S e.con.str, .slice al e.con.list.length cl, .slice am e.con.map.length cm, .slice ap e.prev.length cp, .slice aa e.auth.length ca, .int .i64 e.dep, .int .i64 e.time, S e.hash, .slice aS e.sigs.length cS] ∧ Mod [] w w1 → ∀ a, Has 106 [] [(1, .pointer (some ⟨g1, 0, none⟩)), (5, .bool e.fine2)] a → K8 a w1 := by
     intro  w4 hI
     obtain ⟨Bg1, E⟩ := hI
     refine hK8 _ _ _ _ (Cq fun K9 hK9 => Cq fun K10 hK10 => c_drawp [7] [0, 1, 2, 3, 4] 5 [6] wide (by kernel_rfl) (fun _ _ _ h => h.2) (pw (fun _ => (oM rfl)) rfl rfl (pw_nil (tv (fun w_ E_ => (oA0 fd48_6 rfl)) rfl rfl (tv (fun w_ E_ => (oL sc45 rfl ((Bg1.mod0 E_).cell rfl))) rfl rfl (tcr (fun u_ w_ => Own w_ 9 1 u_ e.prev.length ((e.prev.map fun s => [S s]).flatten) ∧ ∀ x ∈ ob u_, w.heap.size ≤ x) (fun v_ w1_ w2_ k_ h_ => ⟨h_.1.mod0 k_, h_.2⟩) (fun w_ E_ => oC ent122 rfl) (fun w_ E_ => Calls.imp (c_cloneS _ e.prev ap cp (Rp.to0 (E.then E_)) (by omega)) fun r_ w2_ hr => ⟨⟨hr.1, fun x hx => Nat.le_trans (E.then E_).size (hr.2.1 x hx)⟩, hr.2.2⟩) rfl rfl rfl (tv (fun w_ E_ => (oA0 fd48_7 rfl)) rfl rfl (tv (fun w_ E_ => (oL sc45 rfl ((Bg1.mod0 E_).cell rfl))) rfl rfl (tw_tail1 (t := 89) rfl rfl rfl rfl fun w5 v9 E_ h_ => ?_)))))))))
     obtain ⟨O, L0⟩ := h_
     replace Bg1 := Bg1.mod0 E_
     replace E := E.then E_
     refine s_append sl45 rfl rfl O (Src.flat Tryz.underlying45 (Ra.to0 E)) (by decide) (by omega) (by omega) rfl fun u1 w6 A1 => ?_
     replace E := E.trans' A1.mod (fun x hx => .inr (L0 x hx))
     have O1 : Own w6 9 1 u1 (e.prev ++ e.auth).length (((e.prev ++ e.auth).map fun s => [S s]).flatten) := A1.own.same (by simp) (by simp)
     obtain ⟨ad1, cp1, rfl, hcp1, hcp2⟩ := O1.form
     have RR := Own.strs [] O1 (by simp)
     refine Sv (o_len Tryz.underlying45 rfl) (Ln (e_K (hK10 _ _ _ _ (cB (c_loop (σ := Nat × Bool) (fun ⟨k, x⟩ => [(5, .bool x), (92, .slice ad1 (e.prev ++ e.auth).length cp1), (93, .int .i64 ((e.prev ++ e.auth).length : Int)), (94, .int .i64 (k : Int))]) (fun ⟨k, x⟩ w1 => k ≤ (e.prev ++ e.auth).length ∧ x = (e.fine2 && ((e.prev ++ e.auth).take k).all eventB) ∧ Rep [] w1 (strD (e.prev ++ e.auth)) (.slice ad1 (e.prev ++ e.auth).length cp1) ∧ Mod [] w w1) (fun ⟨k, x⟩ => (e.prev ++ e.auth).length - k) (⟨0, e.fine2⟩) ⟨rfl, rfl, rfl, rfl, trivial⟩ (⟨by omega, by simp, RR, E⟩) ?_)))))
     rintro ⟨k, x⟩ w7 ⟨hk, hx, RR, E⟩
     refine Cq fun K11 hK11 => Cr (Sv (o_lss rfl rfl) (Ln (e_K (hK11 _ _ _ _ (Cq fun K12 hK12 => ?_)))))
     refine c_if rfl (fun h95 => ?_) (fun h95 => ?_)
     ·obtain ⟨y, hy⟩ : ∃ y, (e.prev ++ e.auth)[k]? = some y := ⟨_, List.getElem?_eq_getElem (by omega)⟩
      obtain ⟨a_y, ha_y, hcs_y, _⟩ := flat_at RR hy
      cases ha_y
      have hyl : y.length ≤ 140737488351232 := (List.mem_append.1 (List.mem_of_getElem? hy)).elim (ho6 y) (ho8 y)
      refine cK (e_K (hK12 _ _ _ _ (Cq fun K13 hK13 => cB (Cq fun K14 hK14 => Cr (Sv (o_ix sl45 rfl rfl (by omega)) (Sv (oL sc9 rfl hcs_y.first) (Za rfl (Ln (e_K (hK14 _ _ _ _ (Cr (Zm rfl ?_))))))))))))
      refine bB (fun hk0 : (x) = true => ?_) (fun hk0 => ?_)
      ·refine tW 2 rfl (sgc rfl rfl (oC ent123 rfl) (c_event _ y hyl) rfl fun v_ w8 h_ => ?_)
       obtain ⟨rfl, E_⟩ := h_
       replace RR := RR.mod0 E_
       replace E := E.then E_
       refine bB (fun hk1 : (eventB y) = true => ?_) (fun hk1 => ?_)
       ·exact Sv (oT rfl rfl rfl) (Sv ((o_as rfl).to (v' := .bool (x && eventB y)) (congrArg Value.bool (by simp only [hk0, hk1, Bool.true_and, Bool.and_true, Bool.false_and, Bool.and_false, Bool.true_or, Bool.or_true, Bool.false_or, Bool.or_false, Bool.not_true, Bool.not_false]))) (Ln (eI (by simp) (e_K (hK13 _ _ _ _ (Cr (Sv (o_addN rfl rfl (by omega)) (Zm rfl (Ln (eR (σ := Nat × Bool) (s := ⟨k, x⟩) (⟨k + 1, (x && eventB y)⟩) ⟨rfl, rfl, rfl, rfl, trivial⟩ ⟨by omega, by rw [all_succ2 _ hy, ← Bool.and_assoc, ← hx], RR, E⟩ (by dsimp only; omega)))))))))))
       ·exact Sv (oT rfl rfl rfl) (Sv ((o_as rfl).to (v' := .bool (x && eventB y)) (congrArg Value.bool (by simp only [hk0, bF hk1, Bool.true_and, Bool.and_true, Bool.false_and, Bool.and_false, Bool.true_or, Bool.or_true, Bool.false_or, Bool.or_false, Bool.not_true, Bool.not_false]))) (Ln (eI (by simp) (e_K (hK13 _ _ _ _ (Cr (Sv (o_addN rfl rfl (by omega)) (Zm rfl (Ln (eR (σ := Nat × Bool) (s := ⟨k, x⟩) (⟨k + 1, (x && eventB y)⟩) ⟨rfl, rfl, rfl, rfl, trivial⟩ ⟨by omega, by rw [all_succ2 _ hy, ← Bool.and_assoc, ← hx], RR, E⟩ (by dsimp only; omega)))))))))))
      ·exact tW 4 rfl (Sv ((o_as rfl).to (v' := .bool (x && eventB y)) (congrArg Value.bool (by simp only [bF hk0, Bool.true_and, Bool.and_true, Bool.false_and, Bool.and_false, Bool.true_or, Bool.or_true, Bool.false_or, Bool.or_false, Bool.not_true, Bool.not_false]))) (Ln (eI (by simp) (e_K (hK13 _ _ _ _ (Cr (Sv (o_addN rfl rfl (by omega)) (Zm rfl (Ln (eR (σ := Nat × Bool) (s := ⟨k, x⟩) (⟨k + 1, (x && eventB y)⟩) ⟨rfl, rfl, rfl, rfl, trivial⟩ ⟨by omega, by rw [all_succ2 _ hy, ← Bool.and_assoc, ← hx], RR, E⟩ (by dsimp only; omega)))))))))))
     ·have hx9 : x = e.fine := by rw [hx, List.take_of_length_le (by omega)]; rfl
      refine c_exit (eT (by simp) (eT (by simp) (e_hit (e_K (hK9 _ _ _ _ (Cq fun K15 hK15 => Cq fun K16 hK16 => Cr (tW 2 rfl (Ln (e_K (hK16 _ _ _ _ ?_))))))))))
      refine c_cond rfl (fun h105 => ?_) (fun h105 => ?_)
      ·have hF : e.fine = false := by rw [← hx9]; simpa using h105
       exact Cq fun K17 hK17 => Cr (Za rfl (Ln (e_K (hK17 _ _ _ _ (cR (eT (by simp) (ret1 rfl rfl ⟨by rw [EV.chk_no hfew hF], E⟩)))))))
      ·have hF : e.fine = true := by rw [← hx9]; simpa using h105
       exact cK (e_K (hK15 _ _ _ _ (Cq fun K18 hK18 => Cr (Za rfl (Ln (e_K (hK18 _ _ _ _ (cR (ret1 rfl rfl ⟨by rw [EV.chk_yes hfew hF], E⟩)))))))))
    refine Cr (Zm rfl ?_)
    refine bB (fun hk0 : (e.fine1) = true => ?_) (fun hk0 => ?_)
    ·refine Zm rfl (Sg rfl rfl (oA0 fd48_5 rfl) (Sg rfl rfl (o_fa fd25_0 rfl) (Sg rfl rfl (oL sc3 rfl (Bg1.cell rfl)) (Sg rfl rfl (oE rfl rfl) ?_))))
     refine bD (fun hk1 : e.con.kind = 5 => ?_) (fun hk1 => ?_)
     ·refine tW 4 rfl ?_
      refine bD (fun hk2 : ern (e.con.wr 0 []) = 0 => ?_) (fun hk2 => ?_)
      ·refine tW 2 rfl (Sg rfl rfl (oA0 fd48_8 rfl) (Sg rfl rfl (oL sc3 rfl (Bg1.cell rfl)) (sgc rfl rfl (oC ent119 rfl) (c_number _ _) rfl fun v_ w9 h_ => ?_)))
       obtain ⟨rfl, E_⟩ := h_
       replace Bg1 := Bg1.mod0 E_
       replace E := E.then E_
       refine bB (fun hk3 : (numB e.dep) = true => ?_) (fun hk3 => ?_)
       ·refine tW 2 rfl (Sg rfl rfl (oA0 fd48_9 rfl) (Sg rfl rfl (oL sc3 rfl (Bg1.cell rfl)) (sgc rfl rfl (oC ent119 rfl) (c_number _ _) rfl fun v_ w10 h_ => ?_)))
        obtain ⟨rfl, E_⟩ := h_
        replace Bg1 := Bg1.mod0 E_
        replace E := E.then E_
        refine bB (fun hk4 : (numB e.time) = true => ?_) (fun hk4 => ?_)
        ·refine tW 2 rfl (Sg rfl rfl (oA0 fd48_10 rfl) (Sg rfl rfl (oL sc9 rfl (Bg1.cell rfl)) (sgc rfl rfl (oC ent120 rfl) (c_bytes _ e.hash 32 ho10) rfl fun v_ w11 h_ => ?_)))
         obtain ⟨rfl, E_⟩ := h_
         replace Bg1 := Bg1.mod0 E_
         replace E := E.then E_
         refine bB (fun hk5 : (bytesB e.hash 32) = true => ?_) (fun hk5 => ?_)
         ·refine tW 2 rfl (Sg rfl rfl (oA0 fd48_11 rfl) (Sg rfl rfl (oL sc46 rfl (Bg1.cell rfl)) (sgc rfl rfl (oC ent121 rfl) (c_sigs _ e.sigs aS cS (Rs.to0 E) hslen ho12 (hM.mod0 E)) rfl fun v_ w12 h_ => ?_)))
          obtain ⟨rfl, E_⟩ := h_
          replace Bg1 := Bg1.mod0 E_
          replace E := E.then E_
          refine bB (fun hk6 : (sigsL none e.sigs) = true => ?_) (fun hk6 => ?_)
          ·refine Sv (oT rfl rfl rfl) (Sv ((o_as rfl).to (v' := .bool e.fine2) (congrArg Value.bool (by rw [EV.fine2]; simp only [hk0, dT hk1, dT hk2, hk3, hk4, hk5, hk6, Bool.true_and, Bool.and_true, Bool.false_and, Bool.and_false, Bool.true_or, Bool.or_true, Bool.false_or, Bool.or_false, Bool.not_true, Bool.not_false]))) (Ln ?_))
           refine WE.sub (l' := [(1, _), (5, _)]) ⟨rfl, rfl, trivial⟩ (e_K (J8  w12 ⟨Bg1, E⟩))
          ·refine Sv (oT rfl rfl rfl) (Sv ((o_as rfl).to (v' := .bool e.fine2) (congrArg Value.bool (by rw [EV.fine2]; simp only [hk0, dT hk1, dT hk2, hk3, hk4, hk5, bF hk6, Bool.true_and, Bool.and_true, Bool.false_and, Bool.and_false, Bool.true_or, Bool.or_true, Bool.false_or, Bool.or_false, Bool.not_true, Bool.not_false]))) (Ln ?_))
           refine WE.sub (l' := [(1, _), (5, _)]) ⟨rfl, rfl, trivial⟩ (e_K (J8  w12 ⟨Bg1, E⟩))
         ·refine tW 6 rfl (Sv ((o_as rfl).to (v' := .bool e.fine2) (congrArg Value.bool (by rw [EV.fine2]; simp only [hk0, dT hk1, dT hk2, hk3, hk4, bF hk5, Bool.true_and, Bool.and_true, Bool.false_and, Bool.and_false, Bool.true_or, Bool.or_true, Bool.false_or, Bool.or_false, Bool.not_true, Bool.not_false]))) (Ln ?_))
          refine WE.sub (l' := [(1, _), (5, _)]) ⟨rfl, rfl, trivial⟩ (e_K (J8  w11 ⟨Bg1, E⟩))
        ·refine tW 11 rfl (Sv ((o_as rfl).to (v' := .bool e.fine2) (congrArg Value.bool (by rw [EV.fine2]; simp only [hk0, dT hk1, dT hk2, hk3, bF hk4, Bool.true_and, Bool.and_true, Bool.false_and, Bool.and_false, Bool.true_or, Bool.or_true, Bool.false_or, Bool.or_false, Bool.not_true, Bool.not_false]))) (Ln ?_))
         refine WE.sub (l' := [(1, _), (5, _)]) ⟨rfl, rfl, trivial⟩ (e_K (J8  w10 ⟨Bg1, E⟩))
       ·refine tW 16 rfl (Sv ((o_as rfl).to (v' := .bool e.fine2) (congrArg Value.bool (by rw [EV.fine2]; simp only [hk0, dT hk1, dT hk2, bF hk3, Bool.true_and, Bool.and_true, Bool.false_and, Bool.and_false, Bool.true_or, Bool.or_true, Bool.false_or, Bool.or_false, Bool.not_true, Bool.not_false]))) (Ln ?_))
        refine WE.sub (l' := [(1, _), (5, _)]) ⟨rfl, rfl, trivial⟩ (e_K (J8  w9 ⟨Bg1, E⟩))
      ·refine tW 21 rfl (Sv ((o_as rfl).to (v' := .bool e.fine2) (congrArg Value.bool (by rw [EV.fine2]; simp only [hk0, dT hk1, dF hk2, Bool.true_and, Bool.and_true, Bool.false_and, Bool.and_false, Bool.true_or, Bool.or_true, Bool.false_or, Bool.or_false, Bool.not_true, Bool.not_false]))) (Ln ?_))
       refine WE.sub (l' := [(1, _), (5, _)]) ⟨rfl, rfl, trivial⟩ (e_K (J8  w3 ⟨Bg1, E⟩))
     ·refine tW 25 rfl (Sv ((o_as rfl).to (v' := .bool e.fine2) (congrArg Value.bool (by rw [EV.fine2]; simp only [hk0, dF hk1, Bool.true_and, Bool.and_true, Bool.false_and, Bool.and_false, Bool.true_or, Bool.or_true, Bool.false_or, Bool.or_false, Bool.not_true, Bool.not_false]))) (Ln ?_))
      refine WE.sub (l' := [(1, _), (5, _)]) ⟨rfl, rfl, trivial⟩ (e_K (J8  w3 ⟨Bg1, E⟩))
    ·refine tW 30 rfl (Sv ((o_as rfl).to (v' := .bool e.fine2) (congrArg Value.bool (by rw [EV.fine2]; simp only [bF hk0, Bool.true_and, Bool.and_true, Bool.false_and, Bool.and_false, Bool.true_or, Bool.or_true, Bool.false_or, Bool.or_false, Bool.not_true, Bool.not_false]))) (Ln ?_))
     refine WE.sub (l' := [(1, _), (5, _)]) ⟨rfl, rfl, trivial⟩ (e_K (J8  w3 ⟨Bg1, E⟩))
   refine Cr (Sv (oA0 fd48_0 rfl) (Sv (oL sc9 rfl (Bg1.cell rfl)) (sc (oC ent116 rfl) (c_room _ e.room hsm.1 (hM.mod0 E)) rfl fun v_ w13 h_ => ?_)))
   obtain ⟨rfl, E_⟩ := h_
   replace Bg1 := Bg1.mod0 E_
   replace E := E.then E_
   refine bB (fun hk0 : (namedB 33 qRoom e.room) = true => ?_) (fun hk0 => ?_)
   ·refine Zm rfl (Sg rfl rfl (oA0 fd48_1 rfl) (Sg rfl rfl (oL sc9 rfl (Bg1.cell rfl)) (sgc rfl rfl (oC ent117 rfl) (c_user _ e.snd hsm.2.1 (hM.mod0 E)) rfl fun v_ w14 h_ => ?_)))
    obtain ⟨rfl, E_⟩ := h_
    replace Bg1 := Bg1.mod0 E_
    replace E := E.then E_
    refine bB (fun hk1 : (namedB 64 qUser e.snd) = true => ?_) (fun hk1 => ?_)
    ·refine tW 2 rfl (Sg rfl rfl (oA0 fd48_2 rfl) (Sg rfl rfl (oL sc9 rfl (Bg1.cell rfl)) (Sg rfl rfl (o_sne rfl rfl) ?_)))
     refine bD (fun hk2 : e.ty ≠ [] => ?_) (fun hk2 => ?_)
     ·refine tW 2 rfl (Sg rfl rfl (oA0 fd48_2 rfl) (Sg rfl rfl (oL sc9 rfl (Bg1.cell rfl)) (sgc rfl rfl (oC ent118 rfl) (c_short11 _ _) rfl fun v_ w15 h_ => ?_)))
      obtain ⟨rfl, E_⟩ := h_
      replace Bg1 := Bg1.mod0 E_
      replace E := E.then E_
      refine bB (fun hk3 : (shortB e.ty) = true => ?_) (fun hk3 => ?_)
      ·refine tW 2 rfl (Sg rfl rfl (oA0 fd48_4 rfl) (Sg rfl rfl (oL sc9 rfl (Bg1.cell rfl)) (sgc rfl rfl (oC ent118 rfl) (c_short11 _ _) rfl fun v_ w16 h_ => ?_)))
       obtain ⟨rfl, E_⟩ := h_
       replace Bg1 := Bg1.mod0 E_
       replace E := E.then E_
       refine bB (fun hk4 : (shortB e.key) = true => ?_) (fun hk4 => ?_)
       ·refine tW 2 rfl (Sg rfl rfl (oA0 fd48_3 rfl) (Sg rfl rfl (oL sc4 rfl (Bg1.cell rfl)) ?_))
        refine bB (fun hk5 : (e.st) = true => ?_) (fun hk5 => ?_)
        ·refine tW 6 rfl (Sv ((o_as rfl).to (v' := .bool e.fine1) (congrArg Value.bool (by rw [EV.fine1]; simp only [hk0, hk1, dT hk2, hk3, hk4, hk5, Bool.true_and, Bool.and_true, Bool.false_and, Bool.and_false, Bool.true_or, Bool.or_true, Bool.false_or, Bool.or_false, Bool.not_true, Bool.not_false]))) (Ln ?_))
         refine WE.sub (l' := [(1, _), (4, _), (5, _)]) ⟨rfl, rfl, rfl, trivial⟩ (e_K (J7  w16 ⟨Bg1, E⟩))
        ·refine Sg rfl rfl (oM rfl) (Sg rfl rfl (oA0 fd48_4 rfl) (Sg rfl rfl (oL sc9 rfl (Bg1.cell rfl)) (Sg rfl rfl (o_seq rfl rfl) ?_)))
         refine bD (fun hk6 : e.key = [] => ?_) (fun hk6 => ?_)
         ·refine tW 2 rfl (Sv ((o_as rfl).to (v' := .bool e.fine1) (congrArg Value.bool (by rw [EV.fine1]; simp only [hk0, hk1, dT hk2, hk3, hk4, bF hk5, dT hk6, Bool.true_and, Bool.and_true, Bool.false_and, Bool.and_false, Bool.true_or, Bool.or_true, Bool.false_or, Bool.or_false, Bool.not_true, Bool.not_false]))) (Ln ?_))
          refine WE.sub (l' := [(1, _), (4, _), (5, _)]) ⟨rfl, rfl, rfl, trivial⟩ (e_K (J7  w16 ⟨Bg1, E⟩))
         ·refine tW 2 rfl (Sv ((o_as rfl).to (v' := .bool e.fine1) (congrArg Value.bool (by rw [EV.fine1]; simp only [hk0, hk1, dT hk2, hk3, hk4, bF hk5, dF hk6, Bool.true_and, Bool.and_true, Bool.false_and, Bool.and_false, Bool.true_or, Bool.or_true, Bool.false_or, Bool.or_false, Bool.not_true, Bool.not_false]))) (Ln ?_))
          refine WE.sub (l' := [(1, _), (4, _), (5, _)]) ⟨rfl, rfl, rfl, trivial⟩ (e_K (J7  w16 ⟨Bg1, E⟩))
       ·refine tW 10 rfl (Sv ((o_as rfl).to (v' := .bool e.fine1) (congrArg Value.bool (by rw [EV.fine1]; simp only [hk0, hk1, dT hk2, hk3, bF hk4, Bool.true_and, Bool.and_true, Bool.false_and, Bool.and_false, Bool.true_or, Bool.or_true, Bool.false_or, Bool.or_false, Bool.not_true, Bool.not_false]))) (Ln ?_))
        refine WE.sub (l' := [(1, _), (4, _), (5, _)]) ⟨rfl, rfl, rfl, trivial⟩ (e_K (J7  w16 ⟨Bg1, E⟩))
      ·refine tW 15 rfl (Sv ((o_as rfl).to (v' := .bool e.fine1) (congrArg Value.bool (by rw [EV.fine1]; simp only [hk0, hk1, dT hk2, bF hk3, Bool.true_and, Bool.and_true, Bool.false_and, Bool.and_false, Bool.true_or, Bool.or_true, Bool.false_or, Bool.or_false, Bool.not_true, Bool.not_false]))) (Ln ?_))
       refine WE.sub (l' := [(1, _), (4, _), (5, _)]) ⟨rfl, rfl, rfl, trivial⟩ (e_K (J7  w15 ⟨Bg1, E⟩))
     ·refine tW 20 rfl (Sv ((o_as rfl).to (v' := .bool e.fine1) (congrArg Value.bool (by rw [EV.fine1]; simp only [hk0, hk1, dF hk2, Bool.true_and, Bool.and_true, Bool.false_and, Bool.and_false, Bool.true_or, Bool.or_true, Bool.false_or, Bool.or_false, Bool.not_true, Bool.not_false]))) (Ln ?_))
      refine WE.sub (l' := [(1, _), (4, _), (5, _)]) ⟨rfl, rfl, rfl, trivial⟩ (e_K (J7  w14 ⟨Bg1, E⟩))
    ·refine tW 25 rfl (Sv ((o_as rfl).to (v' := .bool e.fine1) (congrArg Value.bool (by rw [EV.fine1]; simp only [hk0, bF hk1, Bool.true_and, Bool.and_true, Bool.false_and, Bool.and_false, Bool.true_or, Bool.or_true, Bool.false_or, Bool.or_false, Bool.not_true, Bool.not_false]))) (Ln ?_))
     refine WE.sub (l' := [(1, _), (4, _), (5, _)]) ⟨rfl, rfl, rfl, trivial⟩ (e_K (J7  w14 ⟨Bg1, E⟩))
   ·refine tW 29 rfl (Sv ((o_as rfl).to (v' := .bool e.fine1) (congrArg Value.bool (by rw [EV.fine1]; simp only [bF hk0, Bool.true_and, Bool.and_true, Bool.false_and, Bool.and_false, Bool.true_or, Bool.or_true, Bool.false_or, Bool.or_false, Bool.not_true, Bool.not_false]))) (Ln ?_))
    refine WE.sub (l' := [(1, _), (4, _), (5, _)]) ⟨rfl, rfl, rfl, trivial⟩ (e_K (J7  w13 ⟨Bg1, E⟩))

theorem c_checkR (w : World) (e : EV) (us : List Value) (R : Reps [] w e.D us) (ho : e.ok) (hT : Tab w) : Calls Tryz.prog 31 [.agg us.toArray].toArray w (Ret fun u w' => u = .int .i64 e.chk ∧ Mod [] w w') := by
 refine enter Tryz.func31 rfl rfl rfl (l := [(0, _)]) ⟨rfl, trivial⟩ ?_
 have E := Mod.refl [] w
 obtain ⟨al, cl, am, cm, ap, cp, aa, ca, aS, cS, rfl, Rc, Rp, Ra, Rs⟩ := EV.cells17 R
 obtain ⟨ho1, ho2, ho3, ho4, ho5, ho6, ho7, ho8, ho9, ho10, ho11, ho12⟩ := ho
 have nd1 : decide (e.dep ≤ 9007199254740991) = decide (e.dep < 9007199254740992) := by rw [decide_eq_decide]; omega
 have nd2 : decide (e.time ≤ 9007199254740991) = decide (e.time < 9007199254740992) := by rw [decide_eq_decide]; omega
 obtain ⟨_, c9, hfl, hcc1, hcc2⟩ := flat_len Rs
 injection hfl with _ _ hfc
 subst hfc
 obtain ⟨_, c9p, hflp, hcp1, hcp2⟩ := flat_len Rp
 injection hflp with _ _ hfcp
 subst hfcp
 obtain ⟨_, c9a, hfla, hca1, hca2⟩ := flat_len Ra
 injection hfla with _ _ hfca
 subst hfca
 refine Cq fun K1 hK1 => Cr (s_box rfl rfl rfl fun g1 w1 N1 => ?_)
 have Lg1_E := N1.le E
 replace E := E.then N1.mod
 have Bg1 := N1.blk
 refine Za rfl (Ln (e_K (hK1 _ _ _ _ (Cq fun K2 hK2 => Cq fun K3 hK3 => Cr (Sv (oA0 fd48_6 rfl) (Sv (oL sc45 rfl (Bg1.cell rfl)) (Sv (o_len Tryz.underlying45 rfl) (Sv (o_gtr rfl rfl) ?_))))))))
 refine bD (fun hk0 : (e.prev.length : Int) > 20 => ?_) (fun hk0 => ?_)
 ·refine tW 6 rfl (Ln (e_K (hK3 _ _ _ _ (c_true rfl ?_))))
  have hmany : 20 < e.prev.length ∨ 10 < e.auth.length := by omega
  exact Cq fun K4 hK4 => Cr (Za rfl (Ln (e_K (hK4 _ _ _ _ (cR (eT (by simp) (ret1 rfl rfl ⟨by rw [EV.chk_many hmany], E⟩)))))))
 ·refine Zm rfl (Sg rfl rfl (oA0 fd48_7 rfl) (Sg rfl rfl (oL sc45 rfl (Bg1.cell rfl)) (Sg rfl rfl (o_len Tryz.underlying45 rfl) (Sg rfl rfl (o_gtr rfl rfl) ?_))))
  refine bD (fun hk1 : (e.auth.length : Int) > 10 => ?_) (fun hk1 => ?_)
  ·refine Sv (oF rfl rfl rfl) (Ln (e_K (hK3 _ _ _ _ (c_true rfl ?_))))
   have hmany : 20 < e.prev.length ∨ 10 < e.auth.length := by omega
   exact Cq fun K5 hK5 => Cr (Za rfl (Ln (e_K (hK5 _ _ _ _ (cR (eT (by simp) (ret1 rfl rfl ⟨by rw [EV.chk_many hmany], E⟩)))))))
  ·refine Sv (oF rfl rfl rfl) (Ln (e_K (hK3 _ _ _ _ (c_false rfl ?_))))
   have hfew : ¬ (20 < e.prev.length ∨ 10 < e.auth.length) := by omega
   refine cK (e_K (hK2 _ _ _ _ (Cq fun K6 hK6 => Cq fun K7 hK7 => Cr (Sv (oA0 fd48_6 rfl) (Sv (oL sc45 rfl (Bg1.cell rfl)) (Sv (o_len Tryz.underlying45 rfl) (Zm rfl (Ln (e_K (hK7 _ _ _ _ (cB (c_loop (σ := Nat) (fun k => [(1, .pointer (some ⟨g1, 0, none⟩)), (25, .slice ap e.prev.length cp), (26, .int .i64 (e.prev.length : Int)), (27, .int .i64 (k : Int))]) (fun k w1 => k ≤ e.prev.length ∧ (e.prev.take k).all eventB = true ∧ Blk w1 g1 48 [S e.room, S e.snd, S e.ty, .bool e.st, S e.key, .int .i64 e.con.kind, .bool e.con.is, .int .i64 e.con.num, S e.con.str, .slice al e.con.list.length cl, .slice am e.con.map.length cm, .slice ap e.prev.length cp, .slice aa e.auth.length ca, .int .i64 e.dep, .int .i64 e.time, S e.hash, .slice aS e.sigs.length cS] ∧ Mod [] w w1) (fun k => e.prev.length - k) (0) ⟨rfl, rfl, rfl, rfl, trivial⟩ (⟨by omega, by simp, Bg1, E⟩) ?_))))))))))))
   rintro k w2 ⟨hk, ha, Bg1, E⟩
   refine Cq fun K8 hK8 => Cr (Sv (o_lss rfl rfl) (Ln (e_K (hK8 _ _ _ _ (Cq fun K9 hK9 => ?_)))))
   refine c_if rfl (fun h28 => ?_) (fun h28 => ?_)
   ·obtain ⟨y, hy⟩ : ∃ y, e.prev[k]? = some y := ⟨_, List.getElem?_eq_getElem (by omega)⟩
    obtain ⟨a_y, ha_y, hcs_y, _⟩ := flat_at (Rp.to0 E) hy
    cases ha_y
    have hyl : y.length ≤ 140737488351232 := ho6 y (List.mem_of_getElem? hy)
    refine cK (e_K (hK9 _ _ _ _ (Cq fun K10 hK10 => cB (Cq fun K11 hK11 => Cr (Sv (o_ix sl45 rfl rfl (by omega)) (Sv (oL sc9 rfl hcs_y.first) (Za rfl (Ln (e_K (hK11 _ _ _ _ (Cq fun K12 hK12 => Cr (Zm rfl ?_))))))))))))
    refine sc (oC ent66 rfl) (c_eventR _ y hyl) rfl fun v_ w3 h_ => ?_
    obtain ⟨rfl, E_⟩ := h_
    replace Bg1 := Bg1.mod0 E_
    replace E := E.then E_
    refine Sv (o_not rfl) (Ln (e_K (hK12 _ _ _ _ ?_)))
    refine c_cond rfl (fun h33 => ?_) (fun h33 => ?_)
    ·have hF : e.fine = false := EV.fine_prev (all_bad _ hy (by simpa using h33))
     exact Cq fun K13 hK13 => Cr (Za rfl (Ln (e_K (hK13 _ _ _ _ (cR (eI (by simp) (eT (by simp) (eT (by simp) (eI (by simp) (eT (by simp) (ret1 rfl rfl ⟨by rw [EV.chk_no hfew hF], E⟩)))))))))))
    ·have hyv : eventB y = true := by simpa using h33
     exact cK (eI (by simp) (e_K (hK10 _ _ _ _ (Cr (Sv (o_addN rfl rfl (by omega)) (Zm rfl (Ln (eR (σ := Nat) (s := k) (k + 1) ⟨rfl, rfl, rfl, rfl, trivial⟩ ⟨by omega, by rw [all_succ2 _ hy, ha, hyv]; rfl, Bg1, E⟩ (by omega)))))))))
   ·have hpv9 : e.prev.all eventB = true := by rw [List.take_of_length_le (by omega)] at ha; exact ha
    refine c_exit (eT (by simp) (eT (by simp) (e_hit (e_K (hK6 _ _ _ _ (Cq fun K14 hK14 => Cq fun K15 hK15 => Cr (Sv (oA0 fd48_7 rfl) (Sv (oL sc45 rfl (Bg1.cell rfl)) (Sv (o_len Tryz.underlying45 rfl) (Zm rfl (Ln (e_K (hK15 _ _ _ _ ?_)))))))))))))
    refine cB (c_loop (σ := Nat) (fun k => [(1, .pointer (some ⟨g1, 0, none⟩)), (36, .slice aa e.auth.length ca), (37, .int .i64 (e.auth.length : Int)), (38, .int .i64 (k : Int))]) (fun k w1 => k ≤ e.auth.length ∧ (e.auth.take k).all eventB = true ∧ Blk w1 g1 48 [S e.room, S e.snd, S e.ty, .bool e.st, S e.key, .int .i64 e.con.kind, .bool e.con.is, .int .i64 e.con.num, S e.con.str, .slice al e.con.list.length cl, .slice am e.con.map.length cm, .slice ap e.prev.length cp, .slice aa e.auth.length ca, .int .i64 e.dep, .int .i64 e.time, S e.hash, .slice aS e.sigs.length cS] ∧ Mod [] w w1) (fun k => e.auth.length - k) (0) ⟨rfl, rfl, rfl, rfl, trivial⟩ (⟨by omega, by simp, Bg1, E⟩) ?_)
    rintro k w4 ⟨hk, ha, Bg1, E⟩
    refine Cq fun K16 hK16 => Cr (Sv (o_lss rfl rfl) (Ln (e_K (hK16 _ _ _ _ (Cq fun K17 hK17 => ?_)))))
    refine c_if rfl (fun h39 => ?_) (fun h39 => ?_)
    ·obtain ⟨y, hy⟩ : ∃ y, e.auth[k]? = some y := ⟨_, List.getElem?_eq_getElem (by omega)⟩
     obtain ⟨a_y, ha_y, hcs_y, _⟩ := flat_at (Ra.to0 E) hy
     cases ha_y
     have hyl : y.length ≤ 140737488351232 := ho8 y (List.mem_of_getElem? hy)
     refine cK (e_K (hK17 _ _ _ _ (Cq fun K18 hK18 => cB (Cq fun K19 hK19 => Cr (Sv (o_ix sl45 rfl rfl (by omega)) (Sv (oL sc9 rfl hcs_y.first) (Za rfl (Ln (e_K (hK19 _ _ _ _ (Cq fun K20 hK20 => Cr (Zm rfl ?_))))))))))))
     refine sc (oC ent66 rfl) (c_eventR _ y hyl) rfl fun v_ w5 h_ => ?_
     obtain ⟨rfl, E_⟩ := h_
     replace Bg1 := Bg1.mod0 E_
     replace E := E.then E_
     refine Sv (o_not rfl) (Ln (e_K (hK20 _ _ _ _ ?_)))
     refine c_cond rfl (fun h44 => ?_) (fun h44 => ?_)
     ·have hF : e.fine = false := EV.fine_auth (all_bad _ hy (by simpa using h44))
      exact Cq fun K21 hK21 => Cr (Za rfl (Ln (e_K (hK21 _ _ _ _ (cR (eI (by simp) (eT (by simp) (eT (by simp) (eI (by simp) (eT (by simp) (ret1 rfl rfl ⟨by rw [EV.chk_no hfew hF], E⟩)))))))))))
     ·have hyv : eventB y = true := by simpa using h44
      exact cK (eI (by simp) (e_K (hK18 _ _ _ _ (Cr (Sv (o_addN rfl rfl (by omega)) (Zm rfl (Ln (eR (σ := Nat) (s := k) (k + 1) ⟨rfl, rfl, rfl, rfl, trivial⟩ ⟨by omega, by rw [all_succ2 _ hy, ha, hyv]; rfl, Bg1, E⟩ (by omega)))))))))
    ·have hau9 : e.auth.all eventB = true := by rw [List.take_of_length_le (by omega)] at ha; exact ha
     refine c_exit (eT (by simp) (eT (by simp) (e_hit (e_K (hK14 _ _ _ _ (Cq fun K22 hK22 => Cq fun K23 hK23 => Cr (Sv (oA0 fd48_11 rfl) (Sv (oL sc46 rfl (Bg1.cell rfl)) (Sv (o_len Tryz.underlying46 rfl) (Zm rfl (Ln (e_K (hK23 _ _ _ _ ?_)))))))))))))
     refine cB (c_loop (σ := Nat) (fun k => [(1, .pointer (some ⟨g1, 0, none⟩)), (47, .slice aS e.sigs.length cS), (48, .int .i64 (e.sigs.length : Int)), (49, .int .i64 (k : Int))]) (fun k w1 => k ≤ e.sigs.length ∧ sigsL none e.sigs = sigsL (prevS e.sigs k) (e.sigs.drop k) ∧ Blk w1 g1 48 [S e.room, S e.snd, S e.ty, .bool e.st, S e.key, .int .i64 e.con.kind, .bool e.con.is, .int .i64 e.con.num, S e.con.str, .slice al e.con.list.length cl, .slice am e.con.map.length cm, .slice ap e.prev.length cp, .slice aa e.auth.length ca, .int .i64 e.dep, .int .i64 e.time, S e.hash, .slice aS e.sigs.length cS] ∧ Mod [] w w1) (fun k => e.sigs.length - k) (0) ⟨rfl, rfl, rfl, rfl, trivial⟩ (⟨by omega, rfl, Bg1, E⟩) ?_)
     rintro k w6 ⟨hk, hinv, Bg1, E⟩
     refine Cq fun K24 hK24 => Cr (Sv (o_lss rfl rfl) (Ln (e_K (hK24 _ _ _ _ (Cq fun K25 hK25 => ?_)))))
     refine c_if rfl (fun h50 => ?_) (fun h50 => ?_)
     ·refine cK (e_K (hK25 _ _ _ _ (Cq fun K26 hK26 => cB (Cq fun K27 hK27 => Cr (Zm rfl ?_)))))
      obtain ⟨x, hx_x⟩ : ∃ x, e.sigs[k]? = some x := ⟨_, List.getElem?_eq_getElem (by omega)⟩
      obtain ⟨a_x, ha_x, hcs_x, _⟩ := flat_at (Rs.to0 E) hx_x
      cases ha_x
      obtain ⟨hl1_x, hl2_x, hl3_x⟩ := ho11 x (List.mem_of_getElem? hx_x)
      refine Sv (o_ix sl46 rfl rfl (by omega)) (Sv (o_lda ag85 rfl rfl hcs_x) (s_alloc zv85 rfl fun g2 w7 N2 => ?_))
      have Lg2_E := N2.le E
      have Dg1_g2 := N2.ne Bg1
      replace Bg1 := Bg1.mod0 N2.mod
      replace E := E.then N2.mod
      have Bg2 := N2.blk
      refine Za rfl (s_sta (vs := [_, _, _]) ag85 Bg2 rfl rfl rfl (by simp [Value.oneCell']) (by simp) fun w8 P8 => ?_)
      replace Bg1 := Bg1.ne P8.mod (Ne.symm (Ne.symm Dg1_g2))
      replace E := E.own P8.mod Lg2_E
      replace Bg2 : Blk w8 g2 _ [_, _, _] := P8.blk
      refine Ln (e_K (hK27 _ _ _ _ (Cq fun K28 hK28 => Cq fun K29 hK29 => Cr (Sv (oA0 fd85_0 rfl) (Sv (oL sc9 rfl (Bg2.cell rfl)) (sc (oC ent67 rfl) (c_serverR _ x.srv hl1_x) rfl fun v_ w9 h_ => ?_))))))
      obtain ⟨rfl, E_⟩ := h_
      replace Bg1 := Bg1.mod0 E_
      replace Bg2 := Bg2.mod0 E_
      replace E := E.then E_
      refine Sv (o_not rfl) ?_
      refine bB (fun hk0 : (!serverB x.srv) = true => ?_) (fun hk0 => ?_)
      ·refine tW 12 rfl (Ln (e_K (hK29 _ _ _ _ (c_true rfl ?_))))
       have h_ : serverB x.srv = false := by simpa using hk0
       have hF : e.fine = false := EV.fine_sigs (by rw [hinv, sigsL_at hx_x, show sigB x = false by simp [sigB, h_]]; rfl)
       exact Cq fun K30 hK30 => Cr (Za rfl (Ln (e_K (hK30 _ _ _ _ (cR (eT (by simp) (eI (by simp) (eT (by simp) (eT (by simp) (eI (by simp) (eT (by simp) (ret1 rfl rfl ⟨by rw [EV.chk_no hfew hF], E⟩))))))))))))
      ·refine Zm rfl (Sg rfl rfl (oA0 fd85_1 rfl) (Sg rfl rfl (oL sc9 rfl (Bg2.cell rfl)) (sgc rfl rfl (oC ent68 rfl) (c_keyR _ x.key hl2_x) rfl fun v_ w10 h_ => ?_)))
       obtain ⟨rfl, E_⟩ := h_
       replace Bg1 := Bg1.mod0 E_
       replace Bg2 := Bg2.mod0 E_
       replace E := E.then E_
       refine Sg rfl rfl (o_not rfl) ?_
       refine bB (fun hk1 : (!keyB x.key) = true => ?_) (fun hk1 => ?_)
       ·refine tW 7 rfl (Ln (e_K (hK29 _ _ _ _ (c_true rfl ?_))))
        have h_ : keyB x.key = false := by simpa using hk1
        have hF : e.fine = false := EV.fine_sigs (by rw [hinv, sigsL_at hx_x, show sigB x = false by simp [sigB, h_]]; rfl)
        exact Cq fun K31 hK31 => Cr (Za rfl (Ln (e_K (hK31 _ _ _ _ (cR (eT (by simp) (eI (by simp) (eT (by simp) (eT (by simp) (eI (by simp) (eT (by simp) (ret1 rfl rfl ⟨by rw [EV.chk_no hfew hF], E⟩))))))))))))
       ·refine tW 2 rfl (Sg rfl rfl (oA0 fd85_2 rfl) (Sg rfl rfl (oL sc9 rfl (Bg2.cell rfl)) (sgc rfl rfl (oC ent69 rfl) (c_stands _ x.sig 64 (by omega) hl3_x) rfl fun v_ w11 h_ => ?_)))
        obtain ⟨rfl, E_⟩ := h_
        replace Bg1 := Bg1.mod0 E_
        replace Bg2 := Bg2.mod0 E_
        replace E := E.then E_
        refine Sg rfl rfl (o_not rfl) ?_
        refine bB (fun hk2 : (!bytesB x.sig 64) = true => ?_) (fun hk2 => ?_)
        ·refine Sv (oF rfl rfl rfl) (Ln (e_K (hK29 _ _ _ _ (c_true rfl ?_))))
         have h_ : bytesB x.sig 64 = false := by simpa using hk2
         have hF : e.fine = false := EV.fine_sigs (by rw [hinv, sigsL_at hx_x, show sigB x = false by simp [sigB, h_]]; rfl)
         exact Cq fun K32 hK32 => Cr (Za rfl (Ln (e_K (hK32 _ _ _ _ (cR (eT (by simp) (eI (by simp) (eT (by simp) (eT (by simp) (eI (by simp) (eT (by simp) (ret1 rfl rfl ⟨by rw [EV.chk_no hfew hF], E⟩))))))))))))
        ·refine Sv (oF rfl rfl rfl) (Ln (e_K (hK29 _ _ _ _ (c_false rfl ?_))))
         have g0 : serverB x.srv = true := by simpa using hk0
         have g1_ : keyB x.key = true := by simpa using hk1
         have g2_ : bytesB x.sig 64 = true := by simpa using hk2
         have hsg : sigB x = true := by rw [sigB, g0, g1_, g2_]; rfl
         refine cK (e_K (hK28 _ _ _ _ (Cq fun K33 hK33 => Cr (tW 2 rfl (Ln (e_K (hK33 _ _ _ _ ?_)))))))
         refine c_if rfl (fun h71 => ?_) (fun h71 => ?_)
         ·refine Cq fun K34 hK34 => Cr (Sv (oA0 fd48_11 rfl) (Sv (oL sc46 rfl (Bg1.cell rfl)) (Zm rfl (Sv (o_subE (r := ((k - 1 : Nat) : Int)) rfl rfl (by rw [wrap64_in _ (by omega)]; omega)) ?_))))
          obtain ⟨q, hx_q⟩ : ∃ x, e.sigs[k - 1]? = some x := ⟨_, List.getElem?_eq_getElem (by omega)⟩
          obtain ⟨a_q, ha_q, hcs_q, _⟩ := flat_at (Rs.to0 E) hx_q
          cases ha_q
          obtain ⟨hl1_q, hl2_q, hl3_q⟩ := ho11 q (List.mem_of_getElem? hx_q)
          refine Sv (o_ix sl46 rfl rfl (by omega)) (Sv (o_lda ag85 rfl rfl hcs_q) (s_alloc zv85 rfl fun g3 w12 N3 => ?_))
          have Lg3_E := N3.le E
          have Dg1_g3 := N3.ne Bg1
          have Dg2_g3 := N3.ne Bg2
          replace Bg1 := Bg1.mod0 N3.mod
          replace Bg2 := Bg2.mod0 N3.mod
          replace E := E.then N3.mod
          have Bg3 := N3.blk
          refine s_sta (vs := [_, _, _]) ag85 Bg3 rfl rfl rfl (by simp [Value.oneCell']) (by simp) fun w13 P13 => ?_
          replace Bg1 := Bg1.ne P13.mod (Ne.symm (Ne.symm Dg1_g3))
          replace Bg2 := Bg2.ne P13.mod (Ne.symm (Ne.symm Dg2_g3))
          replace E := E.own P13.mod Lg3_E
          replace Bg3 : Blk w13 g3 _ [_, _, _] := P13.blk
          refine Ln (e_K (hK34 _ _ _ _ (Cq fun K35 hK35 => Cr (Sv (oA0 fd85_0 rfl) (Sv (oL sc9 rfl (Bg3.cell rfl)) (Sv (oA0 fd85_0 rfl) (Sv (oL sc9 rfl (Bg2.cell rfl)) (Sv (o_sgt rfl rfl) ?_))))))))
          refine bB (fun hk4 : (!(bl q.srv x.srv || q.srv == x.srv)) = true => ?_) (fun hk4 => ?_)
          ·refine tW 14 rfl (Ln (e_K (hK35 _ _ _ _ (c_true rfl ?_))))
           have hb_ : sigBad q x = true := by rw [sigBad]; simp only [hk4, Bool.true_and, Bool.and_true, Bool.false_and, Bool.and_false, Bool.true_or, Bool.or_true, Bool.false_or, Bool.or_false, Bool.not_true, Bool.not_false]
           have hF : e.fine = false := EV.fine_sigs (by rw [hinv, sigsL_at hx_x, okP_at hx_q (by omega), hb_]; simp)
           exact Cq fun K36 hK36 => Cr (Za rfl (Ln (e_K (hK36 _ _ _ _ (cR (eI (by simp) (eT (by simp) (eT (by simp) (eI (by simp) (eT (by simp) (ret1 rfl rfl ⟨by rw [EV.chk_no hfew hF], E⟩)))))))))))
          ·refine Zm rfl (Sg rfl rfl (oA0 fd85_0 rfl) (Sg rfl rfl (oL sc9 rfl (Bg3.cell rfl)) (Sg rfl rfl (oA0 fd85_0 rfl) (Sg rfl rfl (oL sc9 rfl (Bg2.cell rfl)) (Sg rfl rfl (o_seq rfl rfl) ?_)))))
           refine bD (fun hk5 : q.srv = x.srv => ?_) (fun hk5 => ?_)
           ·refine Sg rfl rfl (oM rfl) (Sg rfl rfl (oA0 fd85_1 rfl) (Sg rfl rfl (oL sc9 rfl (Bg3.cell rfl)) (Sg rfl rfl (oA0 fd85_1 rfl) (Sg rfl rfl (oL sc9 rfl (Bg2.cell rfl)) (Sg rfl rfl (o_sge rfl rfl) ?_)))))
            refine bB (fun hk6 : (!bl q.key x.key) = true => ?_) (fun hk6 => ?_)
            ·refine tW 2 rfl (Ln (e_K (hK35 _ _ _ _ (c_true rfl ?_))))
             have hb_ : sigBad q x = true := by rw [sigBad]; simp only [bF hk4, dT hk5, hk6, Bool.true_and, Bool.and_true, Bool.false_and, Bool.and_false, Bool.true_or, Bool.or_true, Bool.false_or, Bool.or_false, Bool.not_true, Bool.not_false]
             have hF : e.fine = false := EV.fine_sigs (by rw [hinv, sigsL_at hx_x, okP_at hx_q (by omega), hb_]; simp)
             exact Cq fun K37 hK37 => Cr (Za rfl (Ln (e_K (hK37 _ _ _ _ (cR (eI (by simp) (eT (by simp) (eT (by simp) (eI (by simp) (eT (by simp) (ret1 rfl rfl ⟨by rw [EV.chk_no hfew hF], E⟩)))))))))))
            ·refine tW 2 rfl (Ln (e_K (hK35 _ _ _ _ (c_false rfl ?_))))
             have hb_ : sigBad q x = false := by rw [sigBad]; simp only [bF hk4, dT hk5, bF hk6, Bool.true_and, Bool.and_true, Bool.false_and, Bool.and_false, Bool.true_or, Bool.or_true, Bool.false_or, Bool.or_false, Bool.not_true, Bool.not_false]
             have hnx : sigsL none e.sigs = sigsL (prevS e.sigs (k + 1)) (e.sigs.drop (k + 1)) := by rw [hinv, sigsL_at hx_x, hsg, okP_at hx_q (by omega), hb_]; rfl
             exact cK (eI (by simp) (e_K (hK26 _ _ _ _ (Cr (Sv (o_addN rfl rfl (by omega)) (Zm rfl (Ln (eR (σ := Nat) (s := k) (k + 1) ⟨rfl, rfl, rfl, rfl, trivial⟩ ⟨by omega, hnx, Bg1, E⟩ (by omega)))))))))
           ·refine tW 8 rfl (Ln (e_K (hK35 _ _ _ _ (c_false rfl ?_))))
            have hb_ : sigBad q x = false := by rw [sigBad]; simp only [bF hk4, dF hk5, Bool.true_and, Bool.and_true, Bool.false_and, Bool.and_false, Bool.true_or, Bool.or_true, Bool.false_or, Bool.or_false, Bool.not_true, Bool.not_false]
            have hnx : sigsL none e.sigs = sigsL (prevS e.sigs (k + 1)) (e.sigs.drop (k + 1)) := by rw [hinv, sigsL_at hx_x, hsg, okP_at hx_q (by omega), hb_]; rfl
            exact cK (eI (by simp) (e_K (hK26 _ _ _ _ (Cr (Sv (o_addN rfl rfl (by omega)) (Zm rfl (Ln (eR (σ := Nat) (s := k) (k + 1) ⟨rfl, rfl, rfl, rfl, trivial⟩ ⟨by omega, hnx, Bg1, E⟩ (by omega)))))))))
         ·have hnx : sigsL none e.sigs = sigsL (prevS e.sigs (k + 1)) (e.sigs.drop (k + 1)) := by rw [hinv, sigsL_at hx_x, hsg, okP_0 (by omega)]; rfl
          exact cK (eI (by simp) (e_K (hK26 _ _ _ _ (Cr (Sv (o_addN rfl rfl (by omega)) (Zm rfl (Ln (eR (σ := Nat) (s := k) (k + 1) ⟨rfl, rfl, rfl, rfl, trivial⟩ ⟨by omega, hnx, Bg1, E⟩ (by omega)))))))))
     ·have hsg9 : sigsL none e.sigs = true := by rw [hinv, sigsL_end (by omega)]
      refine c_exit (eT (by simp) (eT (by simp) (e_hit (e_K (hK22 _ _ _ _ (Cq fun K38 hK38 => Cr (Sv (oA0 fd48_5 rfl) (Sv (o_lda (vs := [_, _, _, _, _, _]) ag25 rfl rfl (Bg1.cs rfl)) (sc (oC ent65 rfl) (c_canonR _ e.con _ (Rc.to0 E) (hT.mod E (by simp))) rfl fun v_ w14 h_ => ?_)))))))))
      obtain ⟨rfl, E_⟩ := h_
      replace Bg1 := Bg1.mod0 E_
      replace E := E.then E_
      refine tW 5 rfl (Ln (e_K (hK38 _ _ _ _ (Cq fun K39 hK39 => ?_))))
      have J39 : ∀  (w1 : World), Blk w1 g1 48 [S e.room, S e.snd, S e.ty, .bool e.st, S e.key, .int .i64 e.con.kind, .bool e.con.is, .int .i64 e.con.num, S e.con.str, .slice al e.con.list.length cl, .slice am e.con.map.length cm, .slice ap e.prev.length cp, .slice aa e.auth.length ca, .int .i64 e.dep, .int .i64 e.time, S e.hash, .slice aS e.sigs.length cS] ∧ Mod [] w w1 → ∀ a, Has 177 [] [(1, .pointer (some ⟨g1, 0, none⟩)), (11, .int .i64 (ern (e.con.wr 0 []))), (12, .bool e.names)] a → K39 a w1 := by
       intro  w15 hI
       obtain ⟨Bg1, E⟩ := hI
       refine hK39 _ _ _ _ (Cq fun K40 hK40 => ?_)
       have J40 : ∀  (w1 : World), Blk w1 g1 48 [S e.room, S e.snd, S e.ty, .bool e.st, S e.key, .int .i64 e.con.kind, .bool e.con.is, .int .i64 e.con.num, S e.con.str, .slice al e.con.list.length cl, .slice am e.con.map.length cm, .slice ap e.prev.length cp, .slice aa e.auth.length ca, .int .i64 e.dep, .int .i64 e.time, S e.hash, .slice aS e.sigs.length cS] ∧ Mod [] w w1 → ∀ a, Has 177 [] [(1, .pointer (some ⟨g1, 0, none⟩)), (11, .int .i64 (ern (e.con.wr 0 []))), (12, .bool e.names), (13, .bool e.nums)] a → K40 a w1 := by
        intro  w16 hI
        obtain ⟨Bg1, E⟩ := hI
        refine hK40 _ _ _ _ (Cq fun K41 hK41 => Cq fun K42 hK42 => Cr (tW 2 rfl ?_))
        by_cases hk0 : (e.names) = true
        ·refine bE ((show (!e.names) = false by rw [hk0]; rfl)) (tW 3 rfl ?_)
         by_cases hk1 : (e.nums) = true
         ·refine bE ((show (!e.nums) = false by rw [hk1]; rfl)) (tW 2 rfl (Sg rfl rfl (oA0 fd48_3 rfl) (Sg rfl rfl (oL sc4 rfl (Bg1.cell rfl)) (Sg rfl rfl (o_not rfl) ?_))))
          by_cases hk2 : (e.st) = true
          ·refine bE ((show (!e.st) = false by rw [hk2]; rfl)) (tW 7 rfl (Sg rfl rfl (oA0 fd48_5 rfl) (Sg rfl rfl (o_fa fd25_0 rfl) (Sg rfl rfl (oL sc3 rfl (Bg1.cell rfl)) (Sg rfl rfl (o_neq rfl rfl) ?_)))))
           by_cases hk4 : e.con.kind = 5
           ·refine bE ((show decide (e.con.kind ≠ 5) = false from dF (fun h_ => h_ hk4))) (tW 4 rfl ?_)
            by_cases hk5 : ern (e.con.wr 0 []) = 0
            ·refine bE ((show decide (ern (e.con.wr 0 []) ≠ 0) = false from dF (fun h_ => h_ hk5))) (tW 2 rfl (Sg rfl rfl (oA0 fd48_10 rfl) (Sg rfl rfl (oL sc9 rfl (Bg1.cell rfl)) (sgc rfl rfl (oC ent69 rfl) (c_stands _ e.hash 32 (by omega) ho10) rfl fun v_ w17 h_ => ?_))))
             obtain ⟨rfl, E_⟩ := h_
             replace Bg1 := Bg1.mod0 E_
             replace E := E.then E_
             refine Sg rfl rfl (o_not rfl) ?_
             by_cases hk6 : (bytesB e.hash 32) = true
             ·refine bE ((show (!bytesB e.hash 32) = false by rw [hk6]; rfl)) (Sv (oF rfl rfl rfl) (Ln (e_K (hK42 _ _ _ _ (c_false rfl ?_)))))
              have hF : e.fine = true := by rw [EV.fine_eq]; simp only [hk0, hk1, hk2, dT hk4, dT hk5, hk6, hsg9, hpv9, hau9, Bool.true_and, Bool.and_true, Bool.false_and, Bool.and_false, Bool.true_or, Bool.or_true, Bool.false_or, Bool.or_false, Bool.not_true, Bool.not_false]
              exact cK (e_K (hK41 _ _ _ _ (Cq fun K43 hK43 => Cr (Za rfl (Ln (e_K (hK43 _ _ _ _ (cR (ret1 rfl rfl ⟨by rw [EV.chk_yes hfew hF], E⟩)))))))))
             ·refine bE ((show (!bytesB e.hash 32) = true by rw [bF hk6]; rfl)) (Sv (oF rfl rfl rfl) (Ln (e_K (hK42 _ _ _ _ (c_true rfl ?_)))))
              have hF : e.fine = false := by rw [EV.fine_eq]; simp only [hk0, hk1, hk2, dT hk4, dT hk5, bF hk6, hsg9, hpv9, hau9, Bool.true_and, Bool.and_true, Bool.false_and, Bool.and_false, Bool.true_or, Bool.or_true, Bool.false_or, Bool.or_false, Bool.not_true, Bool.not_false]
              exact Cq fun K44 hK44 => Cr (Za rfl (Ln (e_K (hK44 _ _ _ _ (cR (eT (by simp) (ret1 rfl rfl ⟨by rw [EV.chk_no hfew hF], E⟩)))))))
            ·refine bE ((show decide (ern (e.con.wr 0 []) ≠ 0) = true from dT hk5)) (tW 7 rfl (Ln (e_K (hK42 _ _ _ _ (c_true rfl ?_)))))
             have hF : e.fine = false := by rw [EV.fine_eq]; simp only [hk0, hk1, hk2, dT hk4, dF hk5, hsg9, hpv9, hau9, Bool.true_and, Bool.and_true, Bool.false_and, Bool.and_false, Bool.true_or, Bool.or_true, Bool.false_or, Bool.or_false, Bool.not_true, Bool.not_false]
             exact Cq fun K45 hK45 => Cr (Za rfl (Ln (e_K (hK45 _ _ _ _ (cR (eT (by simp) (ret1 rfl rfl ⟨by rw [EV.chk_no hfew hF], E⟩)))))))
           ·refine bE ((show decide (e.con.kind ≠ 5) = true from dT hk4)) (tW 11 rfl (Ln (e_K (hK42 _ _ _ _ (c_true rfl ?_)))))
            have hF : e.fine = false := by rw [EV.fine_eq]; simp only [hk0, hk1, hk2, dF hk4, hsg9, hpv9, hau9, Bool.true_and, Bool.and_true, Bool.false_and, Bool.and_false, Bool.true_or, Bool.or_true, Bool.false_or, Bool.or_false, Bool.not_true, Bool.not_false]
            exact Cq fun K46 hK46 => Cr (Za rfl (Ln (e_K (hK46 _ _ _ _ (cR (eT (by simp) (ret1 rfl rfl ⟨by rw [EV.chk_no hfew hF], E⟩)))))))
          ·refine bE ((show (!e.st) = true by rw [bF hk2]; rfl)) (Sg rfl rfl (oM rfl) (Sg rfl rfl (oA0 fd48_4 rfl) (Sg rfl rfl (oL sc9 rfl (Bg1.cell rfl)) (Sg rfl rfl (o_sne rfl rfl) ?_))))
           by_cases hk3 : e.key = []
           ·refine bE ((show decide (e.key ≠ []) = false from dF (fun h_ => h_ hk3))) (tW 3 rfl (Sg rfl rfl (oA0 fd48_5 rfl) (Sg rfl rfl (o_fa fd25_0 rfl) (Sg rfl rfl (oL sc3 rfl (Bg1.cell rfl)) (Sg rfl rfl (o_neq rfl rfl) ?_)))))
            by_cases hk4 : e.con.kind = 5
            ·refine bE ((show decide (e.con.kind ≠ 5) = false from dF (fun h_ => h_ hk4))) (tW 4 rfl ?_)
             by_cases hk5 : ern (e.con.wr 0 []) = 0
             ·refine bE ((show decide (ern (e.con.wr 0 []) ≠ 0) = false from dF (fun h_ => h_ hk5))) (tW 2 rfl (Sg rfl rfl (oA0 fd48_10 rfl) (Sg rfl rfl (oL sc9 rfl (Bg1.cell rfl)) (sgc rfl rfl (oC ent69 rfl) (c_stands _ e.hash 32 (by omega) ho10) rfl fun v_ w18 h_ => ?_))))
              obtain ⟨rfl, E_⟩ := h_
              replace Bg1 := Bg1.mod0 E_
              replace E := E.then E_
              refine Sg rfl rfl (o_not rfl) ?_
              by_cases hk6 : (bytesB e.hash 32) = true
              ·refine bE ((show (!bytesB e.hash 32) = false by rw [hk6]; rfl)) (Sv (oF rfl rfl rfl) (Ln (e_K (hK42 _ _ _ _ (c_false rfl ?_)))))
               have hF : e.fine = true := by rw [EV.fine_eq]; simp only [hk0, hk1, bF hk2, dT hk3, dT hk4, dT hk5, hk6, hsg9, hpv9, hau9, Bool.true_and, Bool.and_true, Bool.false_and, Bool.and_false, Bool.true_or, Bool.or_true, Bool.false_or, Bool.or_false, Bool.not_true, Bool.not_false]
               exact cK (e_K (hK41 _ _ _ _ (Cq fun K47 hK47 => Cr (Za rfl (Ln (e_K (hK47 _ _ _ _ (cR (ret1 rfl rfl ⟨by rw [EV.chk_yes hfew hF], E⟩)))))))))
              ·refine bE ((show (!bytesB e.hash 32) = true by rw [bF hk6]; rfl)) (Sv (oF rfl rfl rfl) (Ln (e_K (hK42 _ _ _ _ (c_true rfl ?_)))))
               have hF : e.fine = false := by rw [EV.fine_eq]; simp only [hk0, hk1, bF hk2, dT hk3, dT hk4, dT hk5, bF hk6, hsg9, hpv9, hau9, Bool.true_and, Bool.and_true, Bool.false_and, Bool.and_false, Bool.true_or, Bool.or_true, Bool.false_or, Bool.or_false, Bool.not_true, Bool.not_false]
               exact Cq fun K48 hK48 => Cr (Za rfl (Ln (e_K (hK48 _ _ _ _ (cR (eT (by simp) (ret1 rfl rfl ⟨by rw [EV.chk_no hfew hF], E⟩)))))))
             ·refine bE ((show decide (ern (e.con.wr 0 []) ≠ 0) = true from dT hk5)) (tW 7 rfl (Ln (e_K (hK42 _ _ _ _ (c_true rfl ?_)))))
              have hF : e.fine = false := by rw [EV.fine_eq]; simp only [hk0, hk1, bF hk2, dT hk3, dT hk4, dF hk5, hsg9, hpv9, hau9, Bool.true_and, Bool.and_true, Bool.false_and, Bool.and_false, Bool.true_or, Bool.or_true, Bool.false_or, Bool.or_false, Bool.not_true, Bool.not_false]
              exact Cq fun K49 hK49 => Cr (Za rfl (Ln (e_K (hK49 _ _ _ _ (cR (eT (by simp) (ret1 rfl rfl ⟨by rw [EV.chk_no hfew hF], E⟩)))))))
            ·refine bE ((show decide (e.con.kind ≠ 5) = true from dT hk4)) (tW 11 rfl (Ln (e_K (hK42 _ _ _ _ (c_true rfl ?_)))))
             have hF : e.fine = false := by rw [EV.fine_eq]; simp only [hk0, hk1, bF hk2, dT hk3, dF hk4, hsg9, hpv9, hau9, Bool.true_and, Bool.and_true, Bool.false_and, Bool.and_false, Bool.true_or, Bool.or_true, Bool.false_or, Bool.or_false, Bool.not_true, Bool.not_false]
             exact Cq fun K50 hK50 => Cr (Za rfl (Ln (e_K (hK50 _ _ _ _ (cR (eT (by simp) (ret1 rfl rfl ⟨by rw [EV.chk_no hfew hF], E⟩)))))))
           ·refine bE ((show decide (e.key ≠ []) = true from dT hk3)) (tW 18 rfl (Ln (e_K (hK42 _ _ _ _ (c_true rfl ?_)))))
            have hF : e.fine = false := by rw [EV.fine_eq]; simp only [hk0, hk1, bF hk2, dF hk3, hsg9, hpv9, hau9, Bool.true_and, Bool.and_true, Bool.false_and, Bool.and_false, Bool.true_or, Bool.or_true, Bool.false_or, Bool.or_false, Bool.not_true, Bool.not_false]
            exact Cq fun K51 hK51 => Cr (Za rfl (Ln (e_K (hK51 _ _ _ _ (cR (eT (by simp) (ret1 rfl rfl ⟨by rw [EV.chk_no hfew hF], E⟩)))))))
         ·refine bE ((show (!e.nums) = true by rw [bF hk1]; rfl)) (tW 27 rfl (Ln (e_K (hK42 _ _ _ _ (c_true rfl ?_)))))
          have hF : e.fine = false := by rw [EV.fine_eq]; simp only [hk0, bF hk1, hsg9, hpv9, hau9, Bool.true_and, Bool.and_true, Bool.false_and, Bool.and_false, Bool.true_or, Bool.or_true, Bool.false_or, Bool.or_false, Bool.not_true, Bool.not_false]
          exact Cq fun K52 hK52 => Cr (Za rfl (Ln (e_K (hK52 _ _ _ _ (cR (eT (by simp) (ret1 rfl rfl ⟨by rw [EV.chk_no hfew hF], E⟩)))))))
        ·refine bE ((show (!e.names) = true by rw [bF hk0]; rfl)) (tW 30 rfl (Ln (e_K (hK42 _ _ _ _ (c_true rfl ?_)))))
         have hF : e.fine = false := by rw [EV.fine_eq]; simp only [bF hk0, hsg9, hpv9, hau9, Bool.true_and, Bool.and_true, Bool.false_and, Bool.and_false, Bool.true_or, Bool.or_true, Bool.false_or, Bool.or_false, Bool.not_true, Bool.not_false]
         exact Cq fun K53 hK53 => Cr (Za rfl (Ln (e_K (hK53 _ _ _ _ (cR (eT (by simp) (ret1 rfl rfl ⟨by rw [EV.chk_no hfew hF], E⟩)))))))
       refine Cr (Sv (oA0 fd48_8 rfl) (Sv (oL sc3 rfl (Bg1.cell rfl)) (Sv (o_geq rfl rfl) ?_)))
       refine bD (fun hk0 : 0 ≤ e.dep => ?_) (fun hk0 => ?_)
       ·refine Zm rfl (Sg rfl rfl (oA0 fd48_8 rfl) (Sg rfl rfl (oL sc3 rfl (Bg1.cell rfl)) (Sg rfl rfl (o_lss rfl rfl) ?_)))
        refine bD (fun hk1 : e.dep < 9007199254740992 => ?_) (fun hk1 => ?_)
        ·refine tW 2 rfl (Sg rfl rfl (oA0 fd48_9 rfl) (Sg rfl rfl (oL sc3 rfl (Bg1.cell rfl)) (Sg rfl rfl (o_geq rfl rfl) ?_)))
         refine bD (fun hk2 : 0 ≤ e.time => ?_) (fun hk2 => ?_)
         ·refine tW 2 rfl (Sg rfl rfl (oA0 fd48_9 rfl) (Sg rfl rfl (oL sc3 rfl (Bg1.cell rfl)) (Sg rfl rfl (o_lss rfl rfl) ?_)))
          refine bD (fun hk3 : e.time < 9007199254740992 => ?_) (fun hk3 => ?_)
          ·refine Sv (oT rfl rfl rfl) (Sv ((o_as rfl).to (v' := .bool e.nums) (congrArg Value.bool (by simp only [EV.nums, numB, nd1, nd2, dT hk0, dT hk1, dT hk2, dT hk3, Bool.true_and, Bool.and_true, Bool.false_and, Bool.and_false, Bool.true_or, Bool.or_true, Bool.false_or, Bool.or_false, Bool.not_true, Bool.not_false]))) (Ln ?_))
           refine WE.sub (l' := [(1, _), (11, _), (12, _), (13, _)]) ⟨rfl, rfl, rfl, rfl, trivial⟩ (e_K (J40  w15 ⟨Bg1, E⟩))
          ·refine Sv (oT rfl rfl rfl) (Sv ((o_as rfl).to (v' := .bool e.nums) (congrArg Value.bool (by simp only [EV.nums, numB, nd1, nd2, dT hk0, dT hk1, dT hk2, dF hk3, Bool.true_and, Bool.and_true, Bool.false_and, Bool.and_false, Bool.true_or, Bool.or_true, Bool.false_or, Bool.or_false, Bool.not_true, Bool.not_false]))) (Ln ?_))
           refine WE.sub (l' := [(1, _), (11, _), (12, _), (13, _)]) ⟨rfl, rfl, rfl, rfl, trivial⟩ (e_K (J40  w15 ⟨Bg1, E⟩))
         ·refine tW 6 rfl (Sv ((o_as rfl).to (v' := .bool e.nums) (congrArg Value.bool (by simp only [EV.nums, numB, nd1, nd2, dT hk0, dT hk1, dF hk2, Bool.true_and, Bool.and_true, Bool.false_and, Bool.and_false, Bool.true_or, Bool.or_true, Bool.false_or, Bool.or_false, Bool.not_true, Bool.not_false]))) (Ln ?_))
          refine WE.sub (l' := [(1, _), (11, _), (12, _), (13, _)]) ⟨rfl, rfl, rfl, rfl, trivial⟩ (e_K (J40  w15 ⟨Bg1, E⟩))
        ·refine tW 11 rfl (Sv ((o_as rfl).to (v' := .bool e.nums) (congrArg Value.bool (by simp only [EV.nums, numB, nd1, nd2, dT hk0, dF hk1, Bool.true_and, Bool.and_true, Bool.false_and, Bool.and_false, Bool.true_or, Bool.or_true, Bool.false_or, Bool.or_false, Bool.not_true, Bool.not_false]))) (Ln ?_))
         refine WE.sub (l' := [(1, _), (11, _), (12, _), (13, _)]) ⟨rfl, rfl, rfl, rfl, trivial⟩ (e_K (J40  w15 ⟨Bg1, E⟩))
       ·refine tW 15 rfl (Sv ((o_as rfl).to (v' := .bool e.nums) (congrArg Value.bool (by simp only [EV.nums, numB, nd1, nd2, dF hk0, Bool.true_and, Bool.and_true, Bool.false_and, Bool.and_false, Bool.true_or, Bool.or_true, Bool.false_or, Bool.or_false, Bool.not_true, Bool.not_false]))) (Ln ?_))
        refine WE.sub (l' := [(1, _), (11, _), (12, _), (13, _)]) ⟨rfl, rfl, rfl, rfl, trivial⟩ (e_K (J40  w15 ⟨Bg1, E⟩))
      refine Cr (Sv (oA0 fd48_0 rfl) (Sv (oL sc9 rfl (Bg1.cell rfl)) (sc (oC ent70 rfl) (c_roomR _ e.room ho1) rfl fun v_ w19 h_ => ?_)))
      obtain ⟨rfl, E_⟩ := h_
      replace Bg1 := Bg1.mod0 E_
      replace E := E.then E_
      refine bB (fun hk0 : (namedB 33 qRoom e.room) = true => ?_) (fun hk0 => ?_)
      ·refine Zm rfl (Sg rfl rfl (oA0 fd48_1 rfl) (Sg rfl rfl (oL sc9 rfl (Bg1.cell rfl)) (sgc rfl rfl (oC ent71 rfl) (c_userR _ e.snd ho2) rfl fun v_ w20 h_ => ?_)))
       obtain ⟨rfl, E_⟩ := h_
       replace Bg1 := Bg1.mod0 E_
       replace E := E.then E_
       refine bB (fun hk1 : (namedB 64 qUser e.snd) = true => ?_) (fun hk1 => ?_)
       ·refine tW 2 rfl (Sg rfl rfl (oA0 fd48_2 rfl) (Sg rfl rfl (oL sc9 rfl (Bg1.cell rfl)) (Sg rfl rfl (o_sne rfl rfl) ?_)))
        refine bD (fun hk2 : e.ty ≠ [] => ?_) (fun hk2 => ?_)
        ·refine tW 2 rfl (Sg rfl rfl (oA0 fd48_2 rfl) (Sg rfl rfl (oL sc9 rfl (Bg1.cell rfl)) (sgc rfl rfl (oC ent72 rfl) (c_few _ _) rfl fun v_ w21 h_ => ?_)))
         obtain ⟨rfl, E_⟩ := h_
         replace Bg1 := Bg1.mod0 E_
         replace E := E.then E_
         refine bB (fun hk3 : (shortB e.ty) = true => ?_) (fun hk3 => ?_)
         ·refine tW 2 rfl (Sg rfl rfl (oA0 fd48_4 rfl) (Sg rfl rfl (oL sc9 rfl (Bg1.cell rfl)) (sgc rfl rfl (oC ent72 rfl) (c_few _ _) rfl fun v_ w22 h_ => ?_)))
          obtain ⟨rfl, E_⟩ := h_
          replace Bg1 := Bg1.mod0 E_
          replace E := E.then E_
          refine bB (fun hk4 : (shortB e.key) = true => ?_) (fun hk4 => ?_)
          ·refine Sv (oT rfl rfl rfl) (Sv ((o_as rfl).to (v' := .bool e.names) (congrArg Value.bool (by rw [EV.names]; simp only [hk0, hk1, dT hk2, hk3, hk4, Bool.true_and, Bool.and_true, Bool.false_and, Bool.and_false, Bool.true_or, Bool.or_true, Bool.false_or, Bool.or_false, Bool.not_true, Bool.not_false]))) (Ln ?_))
           refine WE.sub (l' := [(1, _), (11, _), (12, _)]) ⟨rfl, rfl, rfl, trivial⟩ (e_K (J39  w22 ⟨Bg1, E⟩))
          ·refine Sv (oT rfl rfl rfl) (Sv ((o_as rfl).to (v' := .bool e.names) (congrArg Value.bool (by rw [EV.names]; simp only [hk0, hk1, dT hk2, hk3, bF hk4, Bool.true_and, Bool.and_true, Bool.false_and, Bool.and_false, Bool.true_or, Bool.or_true, Bool.false_or, Bool.or_false, Bool.not_true, Bool.not_false]))) (Ln ?_))
           refine WE.sub (l' := [(1, _), (11, _), (12, _)]) ⟨rfl, rfl, rfl, trivial⟩ (e_K (J39  w22 ⟨Bg1, E⟩))
         ·refine tW 6 rfl (Sv ((o_as rfl).to (v' := .bool e.names) (congrArg Value.bool (by rw [EV.names]; simp only [hk0, hk1, dT hk2, bF hk3, Bool.true_and, Bool.and_true, Bool.false_and, Bool.and_false, Bool.true_or, Bool.or_true, Bool.false_or, Bool.or_false, Bool.not_true, Bool.not_false]))) (Ln ?_))
          refine WE.sub (l' := [(1, _), (11, _), (12, _)]) ⟨rfl, rfl, rfl, trivial⟩ (e_K (J39  w21 ⟨Bg1, E⟩))
        ·refine tW 11 rfl (Sv ((o_as rfl).to (v' := .bool e.names) (congrArg Value.bool (by rw [EV.names]; simp only [hk0, hk1, dF hk2, Bool.true_and, Bool.and_true, Bool.false_and, Bool.and_false, Bool.true_or, Bool.or_true, Bool.false_or, Bool.or_false, Bool.not_true, Bool.not_false]))) (Ln ?_))
         refine WE.sub (l' := [(1, _), (11, _), (12, _)]) ⟨rfl, rfl, rfl, trivial⟩ (e_K (J39  w20 ⟨Bg1, E⟩))
       ·refine tW 16 rfl (Sv ((o_as rfl).to (v' := .bool e.names) (congrArg Value.bool (by rw [EV.names]; simp only [hk0, bF hk1, Bool.true_and, Bool.and_true, Bool.false_and, Bool.and_false, Bool.true_or, Bool.or_true, Bool.false_or, Bool.or_false, Bool.not_true, Bool.not_false]))) (Ln ?_))
        refine WE.sub (l' := [(1, _), (11, _), (12, _)]) ⟨rfl, rfl, rfl, trivial⟩ (e_K (J39  w20 ⟨Bg1, E⟩))
      ·refine tW 20 rfl (Sv ((o_as rfl).to (v' := .bool e.names) (congrArg Value.bool (by rw [EV.names]; simp only [bF hk0, Bool.true_and, Bool.and_true, Bool.false_and, Bool.and_false, Bool.true_or, Bool.or_true, Bool.false_or, Bool.or_false, Bool.not_true, Bool.not_false]))) (Ln ?_))
       refine WE.sub (l' := [(1, _), (11, _), (12, _)]) ⟨rfl, rfl, rfl, trivial⟩ (e_K (J39  w19 ⟨Bg1, E⟩))
end Go.Proofs.YtknndpjacklkeaaGreatDoor.V
