/-
  A part of the proof: walks of functions. No condition of its own.
-/
import Derived.Test.YtkhbnhdlelmbnaaGreatDoorM4
import Derived.Test.YtkhbnhdlelmbnaaGreatDoorProg
set_option linter.unusedVariables false
set_option linter.unusedSimpArgs false
set_option maxRecDepth 10000
namespace Go.Proofs.YtkhbnhdlelmbnaaGreatDoor.V
open Go Go.Proofs
theorem fd25_3 : fdB Tryz.prog 25 3 3 1 = true := by kernel_rfl
theorem sc9 : scB Tryz.prog 9 = true := by kernel_rfl
theorem fd25_4 : fdB Tryz.prog 25 4 4 1 = true := by kernel_rfl
theorem sc22 : scB Tryz.prog 22 = true := by kernel_rfl
theorem sl22 : slB Tryz.prog 22 25 6 88 = true := by kernel_rfl
theorem ag25 : agB Tryz.prog 25 6 = true := by kernel_rfl
theorem ent23 : Ent Tryz.prog 23 := Ent.of Tryz.func23 (by kernel_rfl) (by kernel_rfl)
theorem fd25_5 : fdB Tryz.prog 25 5 5 1 = true := by kernel_rfl
theorem sc23 : scB Tryz.prog 23 = true := by kernel_rfl
theorem wide : Tryz.prog.follows .mixedOrders = true := by kernel_rfl
theorem sl23 : slB Tryz.prog 23 41 7 104 = true := by kernel_rfl
theorem fd41_1 : fdB Tryz.prog 41 1 1 6 = true := by kernel_rfl
theorem fd41_0 : fdB Tryz.prog 41 0 0 1 = true := by kernel_rfl
theorem ag41 : agB Tryz.prog 41 7 = true := by kernel_rfl
theorem zv41 : zvB Tryz.prog 41 ([S [], .int .i64 0, .bool false, .int .i64 0, S [], .slice none 0 0, .slice none 0 0]) := by unfold zvB; kernel_rfl
theorem ent7 : Ent Tryz.prog 7 := Ent.of Tryz.func7 (by kernel_rfl) (by kernel_rfl)
theorem zv25 : zvB Tryz.prog 25 ([.int .i64 0, .bool false, .int .i64 0, S [], .slice none 0 0, .slice none 0 0]) := by unfold zvB; kernel_rfl
theorem c_weigh_step (N : Nat) (ih : ∀ (w : World) (v : JV) (us : List Value) (left deep : Int), v.sz ≤ N → Reps [] w v.D us → Calls Tryz.prog 23 [.agg us.toArray, .int .i64 left, .int .i64 deep].toArray w (Ret fun u w' => u = .int .i64 (v.weigh left deep) ∧ Mod [] w w')) (w : World) (v : JV) (us : List Value) (left deep : Int) (hN : v.sz ≤ N + 1) (R : Reps [] w v.D us) : Calls Tryz.prog 23 [.agg us.toArray, .int .i64 left, .int .i64 deep].toArray w (Ret fun u w' => u = .int .i64 (v.weigh left deep) ∧ Mod [] w w') := by
 refine enter Tryz.func23 rfl rfl rfl (l := [(0, _), (1, _), (2, _)]) ⟨rfl, rfl, rfl, trivial⟩ ?_
 have E := Mod.refl [] w
 obtain ⟨al, cl, am, cm, rfl, Rl, Rm⟩ := JV.cells_ R
 refine Cq fun K1 hK1 => Cr (s_box rfl rfl rfl fun g1 w1 N1 => ?_)
 have Lg1_E := N1.le E
 replace E := E.then N1.mod
 have Bg1 := N1.blk
 refine Za rfl (Ln (e_K (hK1 _ _ _ _ (Cq fun K2 hK2 => Cr (Zm rfl (Sv (o_sub rfl rfl) (Sv (oA0 fd25_3 rfl) (Sv (oL sc9 rfl (Bg1.cell rfl)) (Sv (o_slen Tryz.underlying9 rfl) (Sv (o_sub rfl rfl) (Za rfl (Ln (e_K (hK2 _ _ _ _ ?_))))))))))))))
 refine Cq fun K3 hK3 => Cq fun K4 hK4 => Cr (Zm rfl (Sv (oE rfl rfl) (Ln (e_K (hK4 _ _ _ _ ?_)))))
 refine c_if rfl (fun h16 => ?_) (fun h16 => ?_)
 ·exact Cq fun K5 hK5 => Cr (Za rfl (Ln (e_K (hK5 _ _ _ _ (cR (eT (by simp) (ret1 rfl rfl ⟨by rw [JV.weigh_eq, if_pos h16], E⟩)))))))
 ·have hd0 : ¬ deep = 0 := h16
  have hW := JV.weigh_eq v left deep
  rw [if_neg hd0] at hW
  refine cK (e_K (hK3 _ _ _ _ (Cq fun K6 hK6 => Cq fun K7 hK7 => Cr (Za rfl (Ln (e_K (hK7 _ _ _ _ (cB (c_loop (σ := Nat × Int) (fun ⟨k, z⟩ => [(1, .int .i64 z), (2, .int .i64 deep), (3, .pointer (some ⟨g1, 0, none⟩)), (7, .int .i64 (k : Int))]) (fun ⟨k, z⟩ w1 => k ≤ v.list.length ∧ JV.weighl (v.list.drop k) z (w64 (deep - 1)) = JV.weighl v.list (w64 (w64 (left - 1) - v.str.length)) (w64 (deep - 1)) ∧ Blk w1 g1 25 [.int .i64 v.kind, .bool v.is, .int .i64 v.num, S v.str, .slice al v.list.length cl, .slice am v.map.length cm] ∧ Mod [] w w1) (fun ⟨k, z⟩ => v.list.length - k) (⟨0, (w64 (w64 (left - 1) - v.str.length))⟩) ⟨rfl, rfl, rfl, rfl, trivial⟩ (⟨by omega, rfl, Bg1, E⟩) ?_)))))))))
  rintro ⟨k, z⟩ w2 ⟨hk, hz1, Bg1, E⟩
  refine Cq fun K8 hK8 => Cq fun K9 hK9 => ?_
  by_cases hs5_0 : (k : Int) < (v.list.length : Int)
  ·refine Cr (Zm rfl (Sv (oA0 fd25_4 rfl) (Sv (oL sc22 rfl (Bg1.cell rfl)) (Sv (o_len Tryz.underlying22 rfl) (Sv (o_lss rfl rfl) (Zm rfl (Sg rfl (dT hs5_0) (oM rfl) (Sg rfl (dT hs5_0) (o_geq rfl rfl) (Sv (oT (dT hs5_0) rfl rfl) (Ln (e_K (hK9 _ _ _ _ ?_))))))))))))
   refine c_if rfl (fun h25 => ?_) (fun h25 => ?_)
   ·obtain ⟨x, hx_x⟩ : ∃ x, v.list[k]? = some x := ⟨_, List.getElem?_eq_getElem (by omega)⟩
    obtain ⟨a_x, us_x, ha_x, R_x, hcs0_x⟩ := JV.at_l Rl hx_x
    obtain ⟨al_x, cl_x, am_x, cm_x, rfl, Rl_x, Rm_x⟩ := JV.cells_ R_x
    have hcs_x := hcs0_x.mod0 E
    have hcap_x := JV.cap_l Rl
    obtain rfl := ha_x
    have hz : ¬ z < 0 := by omega
    have hS := JV.weighl_at (d := (w64 (deep - 1))) hx_x hz
    refine cK (e_K (hK8 _ _ _ _ (Cq fun K10 hK10 => cB (Cr (Sv (oA0 fd25_4 rfl) (Sv (oL sc22 rfl (Bg1.cell rfl)) (Zm rfl (Sv (o_ix sl22 rfl rfl (by omega)) (Sv (o_lda ag25 rfl rfl hcs_x) (Zm rfl (Zm rfl (Sv (o_sub rfl rfl) (sc (oC ent23 rfl) (ih _ x _ z _ (by have := JV.sz_in_list (List.mem_of_getElem? hx_x); omega) (R_x.to0 E)) rfl fun v_ w3 h_ => ?_)))))))))))))
    obtain ⟨rfl, E_⟩ := h_
    replace Bg1 := Bg1.mod0 E_
    replace E := E.then E_
    refine Za rfl (Ln (eI (by simp) (e_K (hK10 _ _ _ _ (Cr (Zm rfl (Sv (o_addN rfl rfl (by omega)) (Za rfl (Ln ?_)))))))))
    have hcap := JV.cap_l Rl
    exact eR (σ := Nat × Int) (s := ⟨k, z⟩) (⟨k + 1, x.weigh z (w64 (deep - 1))⟩) ⟨rfl, rfl, rfl, rfl, trivial⟩ ⟨by omega, by rw [← hS]; exact hz1, Bg1, E⟩ (by dsimp only; omega)
   ·have hz2 : JV.weighl v.list (w64 (w64 (left - 1) - v.str.length)) (w64 (deep - 1)) = z := by rw [← hz1]; exact JV.weighl_neg (by omega)
    refine c_exit (eT (by simp) (eT (by simp) (e_hit (e_K (hK6 _ _ _ _ (Cq fun K11 hK11 => Cq fun K12 hK12 => Cr (Za rfl (Ln (e_K (hK12 _ _ _ _ (cB (c_loop (σ := Nat × Int) (fun ⟨k, y⟩ => [(1, .int .i64 y), (2, .int .i64 deep), (3, .pointer (some ⟨g1, 0, none⟩)), (8, .int .i64 (k : Int))]) (fun ⟨k, y⟩ w1 => k ≤ v.map.length ∧ JV.weighm (v.map.drop k) y (w64 (deep - 1)) = JV.weighm v.map z (w64 (deep - 1)) ∧ Blk w1 g1 25 [.int .i64 v.kind, .bool v.is, .int .i64 v.num, S v.str, .slice al v.list.length cl, .slice am v.map.length cm] ∧ Mod [] w w1) (fun ⟨k, y⟩ => v.map.length - k) (⟨0, z⟩) ⟨rfl, rfl, rfl, rfl, trivial⟩ (⟨by omega, rfl, Bg1, E⟩) ?_))))))))))))
    rintro ⟨k, y⟩ w4 ⟨hk, hy1, Bg1, E⟩
    refine Cq fun K13 hK13 => Cq fun K14 hK14 => ?_
    by_cases hs9_0 : (k : Int) < (v.map.length : Int)
    ·refine Cr (Zm rfl (Sv (oA0 fd25_5 rfl) (Sv (oL sc23 rfl (Bg1.cell rfl)) (Sv (o_len Tryz.underlying23 rfl) (Sv (o_lss rfl rfl) (Zm rfl (Sg rfl (dT hs9_0) (oM rfl) (Sg rfl (dT hs9_0) (o_geq rfl rfl) (Sv (oT (dT hs9_0) rfl rfl) (Ln (e_K (hK14 _ _ _ _ ?_))))))))))))
     refine c_if rfl (fun h45 => ?_) (fun h45 => ?_)
     ·obtain ⟨x, hx_x⟩ : ∃ x, v.map[k]? = some x := ⟨_, List.getElem?_eq_getElem (by omega)⟩
      obtain ⟨a_x, us_x, ha_x, R_x, hcs0_x⟩ := JV.at_m Rm hx_x
      obtain ⟨al_x, cl_x, am_x, cm_x, rfl, Rl_x, Rm_x⟩ := JV.cells_ R_x
      have hcs_x := hcs0_x.mod0 E
      have hcap_x := JV.cap_m Rm
      obtain rfl := ha_x
      have hz : ¬ y < 0 := by omega
      have hS := JV.weighm_at (d := (w64 (deep - 1))) hx_x hz
      refine cK (e_K (hK13 _ _ _ _ (Cq fun K15 hK15 => cB (c_draw wide (by kernel_rfl) (tv (fun w_ E_ => (oA0 fd25_5 rfl)) rfl rfl (tv (fun w_ E_ => (oL sc23 rfl ((Bg1.mod0 E_).cell rfl))) rfl rfl (tv (fun w_ E_ => (oM rfl)) rfl rfl (tv (fun w_ E_ => (o_ix sl23 rfl rfl (by omega))) rfl rfl (tv (fun w_ E_ => (o_fad fd41_1 rfl)) rfl rfl (tv (fun w_ E_ => (o_lda ag25 rfl rfl (hcs_x.mod0 E_).tail_)) rfl rfl (tv (fun w_ E_ => (oM rfl)) rfl rfl (tv (fun w_ E_ => (oA0 fd25_5 rfl)) rfl rfl (tv (fun w_ E_ => (oL sc23 rfl ((Bg1.mod0 E_).cell rfl))) rfl rfl ?_)))))))))))))
      refine tv (fun w_ E_ => (oM rfl)) rfl rfl (tv (fun w_ E_ => (o_ix sl23 rfl rfl (by omega))) rfl rfl (tv (fun w_ E_ => (o_fad fd41_0 rfl)) rfl rfl (tv (fun w_ E_ => (oL sc9 rfl ((hcs_x.mod0 E_) 0 _ rfl))) rfl rfl (tv (fun w_ E_ => (o_slen Tryz.underlying9 rfl)) rfl rfl (tv (fun w_ E_ => (o_sub rfl rfl)) rfl rfl (tv (fun w_ E_ => (oM rfl)) rfl rfl (tv (fun w_ E_ => (o_sub rfl rfl)) rfl rfl (tc (fun w_ E_ => oC ent23 rfl) (fun w_ E_ => ih _ x.2 _ _ _ (by have := JV.sz_in_map (List.mem_of_getElem? hx_x); omega) (R_x.to0 (E.then E_))) rfl rfl (tv (fun w_ E_ => (o_as rfl)) rfl rfl (tw_nil rfl fun w5 E_ => ?_))))))))))
      replace Bg1 := Bg1.mod0 E_
      replace E := E.then E_
      refine eI (by simp) (e_K (hK15 _ _ _ _ (Cr (Zm rfl (Sv (o_addN rfl rfl (by omega)) (Za rfl (Ln ?_)))))))
      have hcap := JV.cap_m Rm
      exact eR (σ := Nat × Int) (s := ⟨k, y⟩) (⟨k + 1, x.2.weigh (w64 (y - x.1.length)) (w64 (deep - 1))⟩) ⟨rfl, rfl, rfl, rfl, trivial⟩ ⟨by omega, by rw [← hS]; exact hy1, Bg1, E⟩ (by dsimp only; omega)
     ·have hz3 : v.weigh left deep = y := by rw [hW, hz2, ← hy1]; exact JV.weighm_neg (by omega)
      exact c_exit (eT (by simp) (eT (by simp) (e_hit (e_K (hK11 _ _ _ _ (Cq fun K16 hK16 => Cr (Zm rfl (Za rfl (Ln (e_K (hK16 _ _ _ _ (cR (ret1 rfl rfl ⟨by rw [hz3], E⟩)))))))))))))
    ·refine Cr (Zm rfl (Sv (oA0 fd25_5 rfl) (Sv (oL sc23 rfl (Bg1.cell rfl)) (Sv (o_len Tryz.underlying23 rfl) (Sv (o_lss rfl rfl) (Zm rfl (Sx rfl (dF hs9_0) (Sx rfl (dF hs9_0) (Sv (oF (dF hs9_0) rfl rfl) (Ln (e_K (hK14 _ _ _ _ (c_false rfl ?_)))))))))))))
     have hz3 : v.weigh left deep = y := by rw [hW, hz2, ← hy1]; exact JV.weighm_end (by omega)
     exact c_exit (eT (by simp) (eT (by simp) (e_hit (e_K (hK11 _ _ _ _ (Cq fun K17 hK17 => Cr (Zm rfl (Za rfl (Ln (e_K (hK17 _ _ _ _ (cR (ret1 rfl rfl ⟨by rw [hz3], E⟩)))))))))))))
  ·refine Cr (Zm rfl (Sv (oA0 fd25_4 rfl) (Sv (oL sc22 rfl (Bg1.cell rfl)) (Sv (o_len Tryz.underlying22 rfl) (Sv (o_lss rfl rfl) (Zm rfl (Sx rfl (dF hs5_0) (Sx rfl (dF hs5_0) (Sv (oF (dF hs5_0) rfl rfl) (Ln (e_K (hK9 _ _ _ _ (c_false rfl ?_)))))))))))))
   have hz2 : JV.weighl v.list (w64 (w64 (left - 1) - v.str.length)) (w64 (deep - 1)) = z := by rw [← hz1]; exact JV.weighl_end (by omega)
   refine c_exit (eT (by simp) (eT (by simp) (e_hit (e_K (hK6 _ _ _ _ (Cq fun K18 hK18 => Cq fun K19 hK19 => Cr (Za rfl (Ln (e_K (hK19 _ _ _ _ (cB (c_loop (σ := Nat × Int) (fun ⟨k, y⟩ => [(1, .int .i64 y), (2, .int .i64 deep), (3, .pointer (some ⟨g1, 0, none⟩)), (8, .int .i64 (k : Int))]) (fun ⟨k, y⟩ w1 => k ≤ v.map.length ∧ JV.weighm (v.map.drop k) y (w64 (deep - 1)) = JV.weighm v.map z (w64 (deep - 1)) ∧ Blk w1 g1 25 [.int .i64 v.kind, .bool v.is, .int .i64 v.num, S v.str, .slice al v.list.length cl, .slice am v.map.length cm] ∧ Mod [] w w1) (fun ⟨k, y⟩ => v.map.length - k) (⟨0, z⟩) ⟨rfl, rfl, rfl, rfl, trivial⟩ (⟨by omega, rfl, Bg1, E⟩) ?_))))))))))))
   rintro ⟨k, y⟩ w6 ⟨hk, hy1, Bg1, E⟩
   refine Cq fun K20 hK20 => Cq fun K21 hK21 => ?_
   by_cases hs9_0 : (k : Int) < (v.map.length : Int)
   ·refine Cr (Zm rfl (Sv (oA0 fd25_5 rfl) (Sv (oL sc23 rfl (Bg1.cell rfl)) (Sv (o_len Tryz.underlying23 rfl) (Sv (o_lss rfl rfl) (Zm rfl (Sg rfl (dT hs9_0) (oM rfl) (Sg rfl (dT hs9_0) (o_geq rfl rfl) (Sv (oT (dT hs9_0) rfl rfl) (Ln (e_K (hK21 _ _ _ _ ?_))))))))))))
    refine c_if rfl (fun h45 => ?_) (fun h45 => ?_)
    ·obtain ⟨x, hx_x⟩ : ∃ x, v.map[k]? = some x := ⟨_, List.getElem?_eq_getElem (by omega)⟩
     obtain ⟨a_x, us_x, ha_x, R_x, hcs0_x⟩ := JV.at_m Rm hx_x
     obtain ⟨al_x, cl_x, am_x, cm_x, rfl, Rl_x, Rm_x⟩ := JV.cells_ R_x
     have hcs_x := hcs0_x.mod0 E
     have hcap_x := JV.cap_m Rm
     obtain rfl := ha_x
     have hz : ¬ y < 0 := by omega
     have hS := JV.weighm_at (d := (w64 (deep - 1))) hx_x hz
     refine cK (e_K (hK20 _ _ _ _ (Cq fun K22 hK22 => cB (c_draw wide (by kernel_rfl) (tv (fun w_ E_ => (oA0 fd25_5 rfl)) rfl rfl (tv (fun w_ E_ => (oL sc23 rfl ((Bg1.mod0 E_).cell rfl))) rfl rfl (tv (fun w_ E_ => (oM rfl)) rfl rfl (tv (fun w_ E_ => (o_ix sl23 rfl rfl (by omega))) rfl rfl (tv (fun w_ E_ => (o_fad fd41_1 rfl)) rfl rfl (tv (fun w_ E_ => (o_lda ag25 rfl rfl (hcs_x.mod0 E_).tail_)) rfl rfl (tv (fun w_ E_ => (oM rfl)) rfl rfl (tv (fun w_ E_ => (oA0 fd25_5 rfl)) rfl rfl (tv (fun w_ E_ => (oL sc23 rfl ((Bg1.mod0 E_).cell rfl))) rfl rfl ?_)))))))))))))
     refine tv (fun w_ E_ => (oM rfl)) rfl rfl (tv (fun w_ E_ => (o_ix sl23 rfl rfl (by omega))) rfl rfl (tv (fun w_ E_ => (o_fad fd41_0 rfl)) rfl rfl (tv (fun w_ E_ => (oL sc9 rfl ((hcs_x.mod0 E_) 0 _ rfl))) rfl rfl (tv (fun w_ E_ => (o_slen Tryz.underlying9 rfl)) rfl rfl (tv (fun w_ E_ => (o_sub rfl rfl)) rfl rfl (tv (fun w_ E_ => (oM rfl)) rfl rfl (tv (fun w_ E_ => (o_sub rfl rfl)) rfl rfl (tc (fun w_ E_ => oC ent23 rfl) (fun w_ E_ => ih _ x.2 _ _ _ (by have := JV.sz_in_map (List.mem_of_getElem? hx_x); omega) (R_x.to0 (E.then E_))) rfl rfl (tv (fun w_ E_ => (o_as rfl)) rfl rfl (tw_nil rfl fun w7 E_ => ?_))))))))))
     replace Bg1 := Bg1.mod0 E_
     replace E := E.then E_
     refine eI (by simp) (e_K (hK22 _ _ _ _ (Cr (Zm rfl (Sv (o_addN rfl rfl (by omega)) (Za rfl (Ln ?_)))))))
     have hcap := JV.cap_m Rm
     exact eR (σ := Nat × Int) (s := ⟨k, y⟩) (⟨k + 1, x.2.weigh (w64 (y - x.1.length)) (w64 (deep - 1))⟩) ⟨rfl, rfl, rfl, rfl, trivial⟩ ⟨by omega, by rw [← hS]; exact hy1, Bg1, E⟩ (by dsimp only; omega)
    ·have hz3 : v.weigh left deep = y := by rw [hW, hz2, ← hy1]; exact JV.weighm_neg (by omega)
     exact c_exit (eT (by simp) (eT (by simp) (e_hit (e_K (hK18 _ _ _ _ (Cq fun K23 hK23 => Cr (Zm rfl (Za rfl (Ln (e_K (hK23 _ _ _ _ (cR (ret1 rfl rfl ⟨by rw [hz3], E⟩)))))))))))))
   ·refine Cr (Zm rfl (Sv (oA0 fd25_5 rfl) (Sv (oL sc23 rfl (Bg1.cell rfl)) (Sv (o_len Tryz.underlying23 rfl) (Sv (o_lss rfl rfl) (Zm rfl (Sx rfl (dF hs9_0) (Sx rfl (dF hs9_0) (Sv (oF (dF hs9_0) rfl rfl) (Ln (e_K (hK21 _ _ _ _ (c_false rfl ?_)))))))))))))
    have hz3 : v.weigh left deep = y := by rw [hW, hz2, ← hy1]; exact JV.weighm_end (by omega)
    exact c_exit (eT (by simp) (eT (by simp) (e_hit (e_K (hK18 _ _ _ _ (Cq fun K24 hK24 => Cr (Zm rfl (Za rfl (Ln (e_K (hK24 _ _ _ _ (cR (ret1 rfl rfl ⟨by rw [hz3], E⟩)))))))))))))

theorem c_weigh_all : ∀ N : Nat, ∀ (w : World) (v : JV) (us : List Value) (left deep : Int), v.sz ≤ N → Reps [] w v.D us → Calls Tryz.prog 23 [.agg us.toArray, .int .i64 left, .int .i64 deep].toArray w (Ret fun u w' => u = .int .i64 (v.weigh left deep) ∧ Mod [] w w')
 | 0, w, v, us, left, deep, h, R => absurd (JV.sz_eq v) (by omega)
 | N + 1, w, v, us, left, deep, h, R => c_weigh_step N (c_weigh_all N) w v us left deep h R
theorem c_weigh (w : World) (v : JV) (us : List Value) (left deep : Int) (R : Reps [] w v.D us) : Calls Tryz.prog 23 [.agg us.toArray, .int .i64 left, .int .i64 deep].toArray w (Ret fun u w' => u = .int .i64 (v.weigh left deep) ∧ Mod [] w w') := c_weigh_all v.sz w v us left deep (Nat.le_refl _) R

theorem c_rises_step (N : Nat) (ih : ∀ (w : World) (v : JV) (us : List Value), v.sz ≤ N → Reps [] w v.D us → Calls Tryz.prog 7 [.agg us.toArray].toArray w (Ret fun u w' => u = .bool v.rises ∧ Mod [] w w')) (w : World) (v : JV) (us : List Value) (hN : v.sz ≤ N + 1) (R : Reps [] w v.D us) : Calls Tryz.prog 7 [.agg us.toArray].toArray w (Ret fun u w' => u = .bool v.rises ∧ Mod [] w w') := by
 refine enter Tryz.func7 rfl rfl rfl (l := [(0, _)]) ⟨rfl, trivial⟩ ?_
 have E := Mod.refl [] w
 obtain ⟨al, cl, am, cm, rfl, Rl, Rm⟩ := JV.cells_ R
 refine Cq fun K1 hK1 => Cr (s_box rfl rfl rfl fun g1 w1 N1 => ?_)
 have Lg1_E := N1.le E
 replace E := E.then N1.mod
 have Bg1 := N1.blk
 refine Za rfl (Ln (e_K (hK1 _ _ _ _ (Cq fun K2 hK2 => Cq fun K3 hK3 => Cr (Sv (oA0 fd25_5 rfl) (Sv (oL sc23 rfl (Bg1.cell rfl)) (Sv (o_len Tryz.underlying23 rfl) (Zm rfl (Ln (e_K (hK3 _ _ _ _ (cB (c_loop (σ := Nat) (fun k => [(1, .pointer (some ⟨g1, 0, none⟩)), (8, .slice am v.map.length cm), (9, .int .i64 v.map.length), (10, .int .i64 (k : Int))]) (fun k w1 => k ≤ v.map.length ∧ (∀ (i : Nat) (a b : List UInt8 × JV), i + 1 < k → v.map[i]? = some a → v.map[i + 1]? = some b → bl a.1 b.1 = true) ∧ (∀ (i : Nat) (p : List UInt8 × JV), i < k → v.map[i]? = some p → p.2.rises = true) ∧ Blk w1 g1 25 [.int .i64 v.kind, .bool v.is, .int .i64 v.num, S v.str, .slice al v.list.length cl, .slice am v.map.length cm] ∧ Mod [] w w1) (fun k => v.map.length - k) (0) ⟨rfl, rfl, rfl, rfl, trivial⟩ (⟨by omega, fun i a b h => by omega, fun i p h => by omega, Bg1, E⟩) ?_)))))))))))))
 rintro k w2 ⟨hk, hA, hB, Bg1, E⟩
 refine Cq fun K4 hK4 => Cr (Sv (o_lss rfl rfl) (Ln (e_K (hK4 _ _ _ _ (Cq fun K5 hK5 => ?_)))))
 refine c_if rfl (fun h11 => ?_) (fun h11 => ?_)
 ·obtain ⟨x, hx_x⟩ : ∃ x, v.map[k]? = some x := ⟨_, List.getElem?_eq_getElem (by omega)⟩
  obtain ⟨a_x, us_x, ha_x, R_x, hcs0_x⟩ := JV.at_m Rm hx_x
  obtain ⟨al_x, cl_x, am_x, cm_x, rfl, Rl_x, Rm_x⟩ := JV.cells_ R_x
  have hcs_x := hcs0_x.mod0 E
  have hcap_x := JV.cap_m Rm
  obtain rfl := ha_x
  refine cK (e_K (hK5 _ _ _ _ (Cq fun K6 hK6 => cB (Cq fun K7 hK7 => Cr (Zm rfl (Sv (o_ix sl23 rfl rfl (by omega)) (Sv (o_lda ag41 rfl rfl hcs_x) (s_alloc zv41 rfl fun g2 w3 N2 => ?_))))))))
  have Lg2_E := N2.le E
  have Dg1_g2 := N2.ne Bg1
  replace Bg1 := Bg1.mod0 N2.mod
  replace E := E.then N2.mod
  have Bg2 := N2.blk
  refine Za rfl (s_sta (vs := [_, _, _, _, _, _, _]) ag41 Bg2 rfl rfl rfl (by simp [Value.oneCell']) (by simp) fun w4 P4 => ?_)
  replace Bg1 := Bg1.ne P4.mod (Ne.symm (Ne.symm Dg1_g2))
  replace E := E.own P4.mod Lg2_E
  replace Bg2 : Blk w4 g2 _ [_, _, _, _, _, _, _] := P4.blk
  refine Ln (e_K (hK7 _ _ _ _ (Cq fun K8 hK8 => ?_)))
  by_cases hs4_0 : (k : Int) > 0
  ·obtain ⟨q, hx_q⟩ : ∃ q, v.map[k - 1]? = some q := ⟨_, List.getElem?_eq_getElem (by omega)⟩
   obtain ⟨a_q, us_q, ha_q, R_q, hcs0_q⟩ := JV.at_m Rm hx_q
   have hcs_q := hcs0_q.mod0 E
   injection ha_q with ha_q
   subst ha_q
   rcases hs4_1 : (!(bl q.1 x.1)) with _ | _
   ·have hAk : ∀ a b : List UInt8 × JV, 0 < k → v.map[k - 1]? = some a → v.map[k]? = some b → bl a.1 b.1 = true := fun a b h ha hb => by
     rw [hx_q] at ha
     rw [hx_x] at hb
     injection ha with ha
     injection hb with hb
     subst ha; subst hb
     simpa using hs4_1
    refine c_draw wide (by kernel_rfl) (tv (fun w_ E_ => (oM rfl)) rfl rfl (tv (fun w_ E_ => (o_gtr rfl rfl)) rfl rfl (tv (fun w_ E_ => (oM rfl)) rfl rfl (tvg rfl (dT hs4_0) (fun w_ E_ => (oA0 fd25_5 rfl)) rfl rfl (tvg rfl (dT hs4_0) (fun w_ E_ => (oL sc23 rfl ((Bg1.mod0 E_).cell rfl))) rfl rfl (tvg rfl (dT hs4_0) (fun w_ E_ => (oM rfl)) rfl rfl (tvg rfl (dT hs4_0) (fun w_ E_ => (o_subE (r := ((k - 1 : Nat) : Int)) rfl rfl (by rw [wrap64_in _ (by omega)]; omega))) rfl rfl (tvg rfl (dT hs4_0) (fun w_ E_ => (o_ix sl23 rfl rfl (by omega))) rfl rfl (tvg rfl (dT hs4_0) (fun w_ E_ => (o_fad fd41_0 rfl)) rfl rfl (tvg rfl (dT hs4_0) (fun w_ E_ => (oL sc9 rfl ((hcs_q.mod0 E_) 0 _ rfl))) rfl rfl (tvg rfl (dT hs4_0) (fun w_ E_ => (oA0 fd41_0 rfl)) rfl rfl (tvg rfl (dT hs4_0) (fun w_ E_ => (oL sc9 rfl ((Bg2.mod0 E_).cell rfl))) rfl rfl (tvg rfl (dT hs4_0) (fun w_ E_ => (o_sge rfl rfl)) rfl rfl ?_)))))))))))))
    refine tv (fun w_ E_ => (oT (dT hs4_0) rfl rfl)) rfl rfl (tv (fun w_ E_ => (oM rfl)) rfl rfl (tvg rfl hs4_1 (fun w_ E_ => (oA0 fd41_1 rfl)) rfl rfl (tvg rfl hs4_1 (fun w_ E_ => (o_lda (vs := [_, _, _, _, _, _]) ag25 rfl rfl ((Bg2.mod0 E_).cs rfl))) rfl rfl (tcg rfl hs4_1 (fun w_ E_ => oC ent7 rfl) (fun w_ E_ => ih _ x.2 _ (by have := JV.sz_in_map (List.mem_of_getElem? hx_x); omega) (R_x.to0 (E.then E_))) rfl rfl (tvg rfl hs4_1 (fun w_ E_ => (o_not rfl)) rfl rfl (tv (fun w_ E_ => (oF hs4_1 rfl rfl)) rfl rfl (tw_nil rfl fun w5 E_ => ?_)))))))
    replace Bg1 := Bg1.mod0 E_
    replace Bg2 := Bg2.mod0 E_
    replace E := E.then E_
    refine e_K (hK8 _ _ _ _ ?_)
    refine c_cond rfl (fun h34 => ?_) (fun h34 => ?_)
    ·have hz3 : v.rises = false := JV.not_Rise_val hx_x (by simpa using h34)
     exact Cq fun K9 hK9 => Cr (Za rfl (Ln (e_K (hK9 _ _ _ _ (cR (eI (by simp) (eT (by simp) (eT (by simp) (eI (by simp) (eT (by simp) (ret1 rfl rfl ⟨by rw [hz3], E⟩)))))))))))
    ·have hB2 : ∀ (i : Nat) (p : List UInt8 × JV), i < k + 1 → v.map[i]? = some p → p.2.rises = true := fun i p hi hp => by
      rcases Nat.lt_succ_iff_lt_or_eq.1 hi with h | h
      ·exact hB i p h hp
      ·subst h; rw [hx_x] at hp; injection hp with hp; subst hp; simpa using h34
     have hA2 : ∀ (i : Nat) (a b : List UInt8 × JV), i + 1 < k + 1 → v.map[i]? = some a → v.map[i + 1]? = some b → bl a.1 b.1 = true := fun i a b hi ha hb => by
      rcases Nat.lt_succ_iff_lt_or_eq.1 hi with h | h
      ·exact hA i a b h ha hb
      ·exact hAk a b (by omega) (by rw [← h]; exact ha) (by rw [← h]; exact hb)
     exact cK (eI (by simp) (e_K (hK6 _ _ _ _ (Cr (Sv (o_addN rfl rfl (by omega)) (Zm rfl (Ln (eR (σ := Nat) (s := k) (k + 1) ⟨rfl, rfl, rfl, rfl, trivial⟩ ⟨by omega, hA2, hB2, Bg1, E⟩ (by omega)))))))))
   ·refine c_draw wide (by kernel_rfl) (tv (fun w_ E_ => (oM rfl)) rfl rfl (tv (fun w_ E_ => (o_gtr rfl rfl)) rfl rfl (tv (fun w_ E_ => (oM rfl)) rfl rfl (tvg rfl (dT hs4_0) (fun w_ E_ => (oA0 fd25_5 rfl)) rfl rfl (tvg rfl (dT hs4_0) (fun w_ E_ => (oL sc23 rfl ((Bg1.mod0 E_).cell rfl))) rfl rfl (tvg rfl (dT hs4_0) (fun w_ E_ => (oM rfl)) rfl rfl (tvg rfl (dT hs4_0) (fun w_ E_ => (o_subE (r := ((k - 1 : Nat) : Int)) rfl rfl (by rw [wrap64_in _ (by omega)]; omega))) rfl rfl (tvg rfl (dT hs4_0) (fun w_ E_ => (o_ix sl23 rfl rfl (by omega))) rfl rfl (tvg rfl (dT hs4_0) (fun w_ E_ => (o_fad fd41_0 rfl)) rfl rfl (tvg rfl (dT hs4_0) (fun w_ E_ => (oL sc9 rfl ((hcs_q.mod0 E_) 0 _ rfl))) rfl rfl (tvg rfl (dT hs4_0) (fun w_ E_ => (oA0 fd41_0 rfl)) rfl rfl (tvg rfl (dT hs4_0) (fun w_ E_ => (oL sc9 rfl ((Bg2.mod0 E_).cell rfl))) rfl rfl (tvg rfl (dT hs4_0) (fun w_ E_ => (o_sge rfl rfl)) rfl rfl ?_)))))))))))))
    refine tv (fun w_ E_ => (oT (dT hs4_0) rfl rfl)) rfl rfl (tv (fun w_ E_ => (oM rfl)) rfl rfl (Tx rfl hs4_1 (Tx rfl hs4_1 (Tx rfl hs4_1 (Tx rfl hs4_1 (tv (fun w_ E_ => (oT hs4_1 rfl rfl)) rfl rfl (tw_nil rfl fun w6 E_ => ?_)))))))
    replace Bg1 := Bg1.mod0 E_
    replace Bg2 := Bg2.mod0 E_
    replace E := E.then E_
    refine e_K (hK8 _ _ _ _ (c_true rfl ?_))
    have hz3 : v.rises = false := JV.not_Rise_asc hx_q hx_x (by omega) (by simpa using hs4_1)
    exact Cq fun K10 hK10 => Cr (Za rfl (Ln (e_K (hK10 _ _ _ _ (cR (eI (by simp) (eT (by simp) (eT (by simp) (eI (by simp) (eT (by simp) (ret1 rfl rfl ⟨by rw [hz3], E⟩)))))))))))
  ·have hAk : ∀ a b : List UInt8 × JV, 0 < k → v.map[k - 1]? = some a → v.map[k]? = some b → bl a.1 b.1 = true := fun a b h => by omega
   refine c_draw wide (by kernel_rfl) (tv (fun w_ E_ => (oM rfl)) rfl rfl (tv (fun w_ E_ => (o_gtr rfl rfl)) rfl rfl (tv (fun w_ E_ => (oM rfl)) rfl rfl (Tx rfl (dF hs4_0) (Tx rfl (dF hs4_0) (Tx rfl (dF hs4_0) (Tx rfl (dF hs4_0) (Tx rfl (dF hs4_0) (Tx rfl (dF hs4_0) (Tx rfl (dF hs4_0) (Tx rfl (dF hs4_0) (Tx rfl (dF hs4_0) (Tx rfl (dF hs4_0) ?_)))))))))))))
   refine tv (fun w_ E_ => (oF (dF hs4_0) rfl rfl)) rfl rfl (tv (fun w_ E_ => (oM rfl)) rfl rfl (tvg rfl rfl (fun w_ E_ => (oA0 fd41_1 rfl)) rfl rfl (tvg rfl rfl (fun w_ E_ => (o_lda (vs := [_, _, _, _, _, _]) ag25 rfl rfl ((Bg2.mod0 E_).cs rfl))) rfl rfl (tcg rfl rfl (fun w_ E_ => oC ent7 rfl) (fun w_ E_ => ih _ x.2 _ (by have := JV.sz_in_map (List.mem_of_getElem? hx_x); omega) (R_x.to0 (E.then E_))) rfl rfl (tvg rfl rfl (fun w_ E_ => (o_not rfl)) rfl rfl (tv (fun w_ E_ => (oF rfl rfl rfl)) rfl rfl (tw_nil rfl fun w7 E_ => ?_)))))))
   replace Bg1 := Bg1.mod0 E_
   replace Bg2 := Bg2.mod0 E_
   replace E := E.then E_
   refine e_K (hK8 _ _ _ _ ?_)
   refine c_cond rfl (fun h34 => ?_) (fun h34 => ?_)
   ·have hz3 : v.rises = false := JV.not_Rise_val hx_x (by simpa using h34)
    exact Cq fun K11 hK11 => Cr (Za rfl (Ln (e_K (hK11 _ _ _ _ (cR (eI (by simp) (eT (by simp) (eT (by simp) (eI (by simp) (eT (by simp) (ret1 rfl rfl ⟨by rw [hz3], E⟩)))))))))))
   ·have hB2 : ∀ (i : Nat) (p : List UInt8 × JV), i < k + 1 → v.map[i]? = some p → p.2.rises = true := fun i p hi hp => by
     rcases Nat.lt_succ_iff_lt_or_eq.1 hi with h | h
     ·exact hB i p h hp
     ·subst h; rw [hx_x] at hp; injection hp with hp; subst hp; simpa using h34
    have hA2 : ∀ (i : Nat) (a b : List UInt8 × JV), i + 1 < k + 1 → v.map[i]? = some a → v.map[i + 1]? = some b → bl a.1 b.1 = true := fun i a b hi ha hb => by
     rcases Nat.lt_succ_iff_lt_or_eq.1 hi with h | h
     ·exact hA i a b h ha hb
     ·exact hAk a b (by omega) (by rw [← h]; exact ha) (by rw [← h]; exact hb)
    exact cK (eI (by simp) (e_K (hK6 _ _ _ _ (Cr (Sv (o_addN rfl rfl (by omega)) (Zm rfl (Ln (eR (σ := Nat) (s := k) (k + 1) ⟨rfl, rfl, rfl, rfl, trivial⟩ ⟨by omega, hA2, hB2, Bg1, E⟩ (by omega)))))))))
 ·refine c_exit (eT (by simp) (eT (by simp) (e_hit (e_K (hK2 _ _ _ _ (Cq fun K12 hK12 => Cq fun K13 hK13 => Cr (Sv (oA0 fd25_4 rfl) (Sv (oL sc22 rfl (Bg1.cell rfl)) (Sv (o_len Tryz.underlying22 rfl) (Zm rfl (Ln (e_K (hK13 _ _ _ _ ?_)))))))))))))
  refine cB (c_loop (σ := Nat) (fun j => [(1, .pointer (some ⟨g1, 0, none⟩)), (37, .slice al v.list.length cl), (38, .int .i64 v.list.length), (39, .int .i64 (j : Int))]) (fun j w1 => j ≤ v.list.length ∧ (∀ (i : Nat) (p : JV), i < j → v.list[i]? = some p → p.rises = true) ∧ Blk w1 g1 25 [.int .i64 v.kind, .bool v.is, .int .i64 v.num, S v.str, .slice al v.list.length cl, .slice am v.map.length cm] ∧ Mod [] w w1) (fun j => v.list.length - j) (0) ⟨rfl, rfl, rfl, rfl, trivial⟩ (⟨by omega, fun i p h => by omega, Bg1, E⟩) ?_)
  rintro j w8 ⟨hj, hC, Bg1, E⟩
  refine Cq fun K14 hK14 => Cr (Sv (o_lss rfl rfl) (Ln (e_K (hK14 _ _ _ _ (Cq fun K15 hK15 => ?_)))))
  refine c_if rfl (fun h40 => ?_) (fun h40 => ?_)
  ·obtain ⟨x, hx_x⟩ : ∃ x, v.list[j]? = some x := ⟨_, List.getElem?_eq_getElem (by omega)⟩
   obtain ⟨a_x, us_x, ha_x, R_x, hcs0_x⟩ := JV.at_l Rl hx_x
   obtain ⟨al_x, cl_x, am_x, cm_x, rfl, Rl_x, Rm_x⟩ := JV.cells_ R_x
   have hcs_x := hcs0_x.mod0 E
   have hcap_x := JV.cap_l Rl
   obtain rfl := ha_x
   refine cK (e_K (hK15 _ _ _ _ (Cq fun K16 hK16 => cB (Cq fun K17 hK17 => Cr (Sv (o_ix sl22 rfl rfl (by omega)) (Sv (o_lda ag25 rfl rfl hcs_x) (s_alloc zv25 rfl fun g3 w9 N3 => ?_)))))))
   have Lg3_E := N3.le E
   have Dg1_g3 := N3.ne Bg1
   replace Bg1 := Bg1.mod0 N3.mod
   replace E := E.then N3.mod
   have Bg3 := N3.blk
   refine s_sta (vs := [_, _, _, _, _, _]) ag25 Bg3 rfl rfl rfl (by simp [Value.oneCell']) (by simp) fun w10 P10 => ?_
   replace Bg1 := Bg1.ne P10.mod (Ne.symm (Ne.symm Dg1_g3))
   replace E := E.own P10.mod Lg3_E
   replace Bg3 : Blk w10 g3 _ [_, _, _, _, _, _] := P10.blk
   refine Ln (e_K (hK17 _ _ _ _ (Cq fun K18 hK18 => Cr (Sv (o_lda (vs := [_, _, _, _, _, _]) ag25 rfl rfl (Bg3.cs rfl)) (sc (oC ent7 rfl) (ih _ x _ (by have := JV.sz_in_list (List.mem_of_getElem? hx_x); omega) (R_x.to0 E)) rfl fun v_ w11 h_ => ?_)))))
   obtain ⟨rfl, E_⟩ := h_
   replace Bg1 := Bg1.mod0 E_
   replace Bg3 := Bg3.mod0 E_
   replace E := E.then E_
   refine Sv (o_not rfl) (Ln (e_K (hK18 _ _ _ _ ?_)))
   refine c_cond rfl (fun h45 => ?_) (fun h45 => ?_)
   ·have hz3 : v.rises = false := JV.not_Rise_list hx_x (by simpa using h45)
    exact Cq fun K19 hK19 => Cr (Za rfl (Ln (e_K (hK19 _ _ _ _ (cR (eI (by simp) (eT (by simp) (eT (by simp) (eI (by simp) (eT (by simp) (ret1 rfl rfl ⟨by rw [hz3], E⟩)))))))))))
   ·have hC2 : ∀ (i : Nat) (p : JV), i < j + 1 → v.list[i]? = some p → p.rises = true := fun i p hi hp => by
     rcases Nat.lt_succ_iff_lt_or_eq.1 hi with h | h
     ·exact hC i p h hp
     ·subst h; rw [hx_x] at hp; injection hp with hp; subst hp; simpa using h45
    exact cK (eI (by simp) (e_K (hK16 _ _ _ _ (Cr (Sv (o_addN rfl rfl (by omega)) (Zm rfl (Ln (eR (σ := Nat) (s := j) (j + 1) ⟨rfl, rfl, rfl, rfl, trivial⟩ ⟨by omega, hC2, Bg1, E⟩ (by omega)))))))))
  ·exact c_exit (eT (by simp) (eT (by simp) (e_hit (e_K (hK12 _ _ _ _ (Cq fun K20 hK20 => Cr (Za rfl (Ln (e_K (hK20 _ _ _ _ (cR (ret1 rfl rfl ⟨by rw [JV.Rise_of (fun i a b ha hb => hA i a b (by have := (List.getElem?_eq_some_iff.1 hb).1; omega) ha hb) (fun i p hp => hB i p (by have := (List.getElem?_eq_some_iff.1 hp).1; omega) hp) (fun i x hx => hC i x (by have := (List.getElem?_eq_some_iff.1 hx).1; omega) hx)], E⟩))))))))))))

theorem c_rises_all : ∀ N : Nat, ∀ (w : World) (v : JV) (us : List Value), v.sz ≤ N → Reps [] w v.D us → Calls Tryz.prog 7 [.agg us.toArray].toArray w (Ret fun u w' => u = .bool v.rises ∧ Mod [] w w')
 | 0, w, v, us, h, R => absurd (JV.sz_eq v) (by omega)
 | N + 1, w, v, us, h, R => c_rises_step N (c_rises_all N) w v us h R
theorem c_rises (w : World) (v : JV) (us : List Value) (R : Reps [] w v.D us) : Calls Tryz.prog 7 [.agg us.toArray].toArray w (Ret fun u w' => u = .bool v.rises ∧ Mod [] w w') := c_rises_all v.sz w v us (Nat.le_refl _) R
end Go.Proofs.YtkhbnhdlelmbnaaGreatDoor.V

set_option linter.unusedVariables false
set_option linter.unusedSimpArgs false
set_option maxRecDepth 10000
namespace Go.Proofs.YtkhbnhdlelmbnaaGreatDoor.V
open Go Go.Proofs
theorem fd25_0 : fdB Tryz.prog 25 0 0 1 = true := by kernel_rfl
theorem sc3 : scB Tryz.prog 3 = true := by kernel_rfl
theorem fd25_1 : fdB Tryz.prog 25 1 1 1 = true := by kernel_rfl
theorem sc4 : scB Tryz.prog 4 = true := by kernel_rfl
theorem fd25_2 : fdB Tryz.prog 25 2 2 1 = true := by kernel_rfl
theorem ent24 : Ent Tryz.prog 24 := Ent.of Tryz.func24 (by kernel_rfl) (by kernel_rfl)
theorem c_same_step (N : Nat) (ih : ∀ (w : World) (v y : JV) (us vs : List Value), v.sz ≤ N → Reps [] w v.D us → Reps [] w y.D vs → Calls Tryz.prog 24 [.agg us.toArray, .agg vs.toArray].toArray w (Ret fun u w' => u = .bool (JV.eqJ v y) ∧ Mod [] w w')) (w : World) (v y : JV) (us vs : List Value) (hN : v.sz ≤ N + 1) (R : Reps [] w v.D us) (R2 : Reps [] w y.D vs) : Calls Tryz.prog 24 [.agg us.toArray, .agg vs.toArray].toArray w (Ret fun u w' => u = .bool (JV.eqJ v y) ∧ Mod [] w w') := by
 refine enter Tryz.func24 rfl rfl rfl (l := [(0, _), (1, _)]) ⟨rfl, rfl, trivial⟩ ?_
 have E := Mod.refl [] w
 obtain ⟨al, cl, am, cm, rfl, Rl, Rm⟩ := JV.cells_ R
 obtain ⟨al2, cl2, am2, cm2, rfl, Rl2, Rm2⟩ := JV.cells_ R2
 refine Cq fun K1 hK1 => Cr (s_box rfl rfl rfl fun g1 w1 N1 => ?_)
 have Lg1_E := N1.le E
 replace E := E.then N1.mod
 have Bg1 := N1.blk
 refine s_box rfl rfl rfl fun g2 w2 N2 => ?_
 have Lg2_E := N2.le E
 have Dg1_g2 := N2.ne Bg1
 replace Bg1 := Bg1.mod0 N2.mod
 replace E := E.then N2.mod
 have Bg2 := N2.blk
 refine Za rfl (Ln (e_K (hK1 _ _ _ _ (Cq fun K2 hK2 => Cq fun K3 hK3 => ?_))))
 by_cases hs1_0 : v.kind ≠ y.kind
 ·have hz3 : JV.eqJ v y = false := JV.eqJ_ne fun e => hs1_0 (by rw [e])
  refine Cr (Sv (oA0 fd25_0 rfl) (Sv (oL sc3 rfl (Bg1.cell rfl)) (Sv (oA0 fd25_0 rfl) (Sv (oL sc3 rfl (Bg2.cell rfl)) (Sv (o_neq rfl rfl) (Zm rfl (Sx rfl (dT hs1_0) (Sx rfl (dT hs1_0) (Sx rfl (dT hs1_0) (Sx rfl (dT hs1_0) (Sx rfl (dT hs1_0) (Sv (oT (dT hs1_0) rfl rfl) (Zm rfl ?_)))))))))))))
  refine Sx rfl rfl (Sx rfl rfl (Sx rfl rfl (Sx rfl rfl (Sx rfl rfl (Sv (oT rfl rfl rfl) (Zm rfl (Sx rfl rfl (Sx rfl rfl (Sx rfl rfl (Sx rfl rfl (Sx rfl rfl (Sv (oT rfl rfl rfl) (Zm rfl ?_)))))))))))))
  refine Sx rfl rfl (Sx rfl rfl (Sx rfl rfl (Sx rfl rfl (Sx rfl rfl (Sx rfl rfl (Sx rfl rfl (Sv (oT rfl rfl rfl) (Zm rfl (Sx rfl rfl (Sx rfl rfl (Sx rfl rfl (Sx rfl rfl (Sx rfl rfl ?_)))))))))))))
  exact Sx rfl rfl (Sx rfl rfl (Sv (oT rfl rfl rfl) (Ln (e_K (hK3 _ _ _ _ (c_true rfl (Cq fun K4 hK4 => Cr (Za rfl (Ln (e_K (hK4 _ _ _ _ (cR (eT (by simp) (ret1 rfl rfl ⟨by rw [hz3], E⟩))))))))))))))
 ·rcases hs1_1 : (v.is != y.is) with _ | _
  ·by_cases hs1_2 : v.num ≠ y.num
   ·have hz3 : JV.eqJ v y = false := JV.eqJ_ne fun e => hs1_2 (by rw [e])
    refine Cr (Sv (oA0 fd25_0 rfl) (Sv (oL sc3 rfl (Bg1.cell rfl)) (Sv (oA0 fd25_0 rfl) (Sv (oL sc3 rfl (Bg2.cell rfl)) (Sv (o_neq rfl rfl) (Zm rfl (Sg rfl (dF hs1_0) (oA0 fd25_1 rfl) (Sg rfl (dF hs1_0) (oL sc4 rfl (Bg1.cell rfl)) (Sg rfl (dF hs1_0) (oA0 fd25_1 rfl) (Sg rfl (dF hs1_0) (oL sc4 rfl (Bg2.cell rfl)) (Sg rfl (dF hs1_0) (o_bsne Tryz.underlying4 rfl rfl) (Sv (oF (dF hs1_0) rfl rfl) (Zm rfl ?_)))))))))))))
    refine Sg rfl hs1_1 (oA0 fd25_2 rfl) (Sg rfl hs1_1 (oL sc3 rfl (Bg1.cell rfl)) (Sg rfl hs1_1 (oA0 fd25_2 rfl) (Sg rfl hs1_1 (oL sc3 rfl (Bg2.cell rfl)) (Sg rfl hs1_1 (o_neq rfl rfl) (Sv (oF hs1_1 rfl rfl) (Zm rfl (Sx rfl (dT hs1_2) (Sx rfl (dT hs1_2) (Sx rfl (dT hs1_2) (Sx rfl (dT hs1_2) (Sx rfl (dT hs1_2) (Sv (oT (dT hs1_2) rfl rfl) (Zm rfl ?_)))))))))))))
    refine Sx rfl rfl (Sx rfl rfl (Sx rfl rfl (Sx rfl rfl (Sx rfl rfl (Sx rfl rfl (Sx rfl rfl (Sv (oT rfl rfl rfl) (Zm rfl (Sx rfl rfl (Sx rfl rfl (Sx rfl rfl (Sx rfl rfl (Sx rfl rfl ?_)))))))))))))
    exact Sx rfl rfl (Sx rfl rfl (Sv (oT rfl rfl rfl) (Ln (e_K (hK3 _ _ _ _ (c_true rfl (Cq fun K5 hK5 => Cr (Za rfl (Ln (e_K (hK5 _ _ _ _ (cR (eT (by simp) (ret1 rfl rfl ⟨by rw [hz3], E⟩))))))))))))))
   ·by_cases hs1_3 : v.str ≠ y.str
    ·have hz3 : JV.eqJ v y = false := JV.eqJ_ne fun e => hs1_3 (by rw [e])
     refine Cr (Sv (oA0 fd25_0 rfl) (Sv (oL sc3 rfl (Bg1.cell rfl)) (Sv (oA0 fd25_0 rfl) (Sv (oL sc3 rfl (Bg2.cell rfl)) (Sv (o_neq rfl rfl) (Zm rfl (Sg rfl (dF hs1_0) (oA0 fd25_1 rfl) (Sg rfl (dF hs1_0) (oL sc4 rfl (Bg1.cell rfl)) (Sg rfl (dF hs1_0) (oA0 fd25_1 rfl) (Sg rfl (dF hs1_0) (oL sc4 rfl (Bg2.cell rfl)) (Sg rfl (dF hs1_0) (o_bsne Tryz.underlying4 rfl rfl) (Sv (oF (dF hs1_0) rfl rfl) (Zm rfl ?_)))))))))))))
     refine Sg rfl hs1_1 (oA0 fd25_2 rfl) (Sg rfl hs1_1 (oL sc3 rfl (Bg1.cell rfl)) (Sg rfl hs1_1 (oA0 fd25_2 rfl) (Sg rfl hs1_1 (oL sc3 rfl (Bg2.cell rfl)) (Sg rfl hs1_1 (o_neq rfl rfl) (Sv (oF hs1_1 rfl rfl) (Zm rfl (Sg rfl (dF hs1_2) (oA0 fd25_3 rfl) (Sg rfl (dF hs1_2) (oL sc9 rfl (Bg1.cell rfl)) (Sg rfl (dF hs1_2) (oA0 fd25_3 rfl) (Sg rfl (dF hs1_2) (oL sc9 rfl (Bg2.cell rfl)) (Sg rfl (dF hs1_2) (o_sne rfl rfl) (Sv (oF (dF hs1_2) rfl rfl) (Zm rfl ?_)))))))))))))
     refine Sx rfl (dT hs1_3) (Sx rfl (dT hs1_3) (Sx rfl (dT hs1_3) (Sx rfl (dT hs1_3) (Sx rfl (dT hs1_3) (Sx rfl (dT hs1_3) (Sx rfl (dT hs1_3) (Sv (oT (dT hs1_3) rfl rfl) (Zm rfl (Sx rfl rfl (Sx rfl rfl (Sx rfl rfl (Sx rfl rfl (Sx rfl rfl ?_)))))))))))))
     exact Sx rfl rfl (Sx rfl rfl (Sv (oT rfl rfl rfl) (Ln (e_K (hK3 _ _ _ _ (c_true rfl (Cq fun K6 hK6 => Cr (Za rfl (Ln (e_K (hK6 _ _ _ _ (cR (eT (by simp) (ret1 rfl rfl ⟨by rw [hz3], E⟩))))))))))))))
    ·by_cases hs1_4 : (v.list.length : Int) ≠ (y.list.length : Int)
     ·have hz3 : JV.eqJ v y = false := JV.eqJ_ne fun e => hs1_4 (by rw [e])
      refine Cr (Sv (oA0 fd25_0 rfl) (Sv (oL sc3 rfl (Bg1.cell rfl)) (Sv (oA0 fd25_0 rfl) (Sv (oL sc3 rfl (Bg2.cell rfl)) (Sv (o_neq rfl rfl) (Zm rfl (Sg rfl (dF hs1_0) (oA0 fd25_1 rfl) (Sg rfl (dF hs1_0) (oL sc4 rfl (Bg1.cell rfl)) (Sg rfl (dF hs1_0) (oA0 fd25_1 rfl) (Sg rfl (dF hs1_0) (oL sc4 rfl (Bg2.cell rfl)) (Sg rfl (dF hs1_0) (o_bsne Tryz.underlying4 rfl rfl) (Sv (oF (dF hs1_0) rfl rfl) (Zm rfl ?_)))))))))))))
      refine Sg rfl hs1_1 (oA0 fd25_2 rfl) (Sg rfl hs1_1 (oL sc3 rfl (Bg1.cell rfl)) (Sg rfl hs1_1 (oA0 fd25_2 rfl) (Sg rfl hs1_1 (oL sc3 rfl (Bg2.cell rfl)) (Sg rfl hs1_1 (o_neq rfl rfl) (Sv (oF hs1_1 rfl rfl) (Zm rfl (Sg rfl (dF hs1_2) (oA0 fd25_3 rfl) (Sg rfl (dF hs1_2) (oL sc9 rfl (Bg1.cell rfl)) (Sg rfl (dF hs1_2) (oA0 fd25_3 rfl) (Sg rfl (dF hs1_2) (oL sc9 rfl (Bg2.cell rfl)) (Sg rfl (dF hs1_2) (o_sne rfl rfl) (Sv (oF (dF hs1_2) rfl rfl) (Zm rfl ?_)))))))))))))
      refine Sg rfl (dF hs1_3) (oA0 fd25_4 rfl) (Sg rfl (dF hs1_3) (oL sc22 rfl (Bg1.cell rfl)) (Sg rfl (dF hs1_3) (o_len Tryz.underlying22 rfl) (Sg rfl (dF hs1_3) (oA0 fd25_4 rfl) (Sg rfl (dF hs1_3) (oL sc22 rfl (Bg2.cell rfl)) (Sg rfl (dF hs1_3) (o_len Tryz.underlying22 rfl) (Sg rfl (dF hs1_3) (o_neq rfl rfl) (Sv (oF (dF hs1_3) rfl rfl) (Zm rfl (Sx rfl (dT hs1_4) (Sx rfl (dT hs1_4) (Sx rfl (dT hs1_4) (Sx rfl (dT hs1_4) (Sx rfl (dT hs1_4) ?_)))))))))))))
      exact Sx rfl (dT hs1_4) (Sx rfl (dT hs1_4) (Sv (oT (dT hs1_4) rfl rfl) (Ln (e_K (hK3 _ _ _ _ (c_true rfl (Cq fun K7 hK7 => Cr (Za rfl (Ln (e_K (hK7 _ _ _ _ (cR (eT (by simp) (ret1 rfl rfl ⟨by rw [hz3], E⟩))))))))))))))
     ·by_cases hs1_5 : (v.map.length : Int) ≠ (y.map.length : Int)
      ·have hz3 : JV.eqJ v y = false := JV.eqJ_ne fun e => hs1_5 (by rw [e])
       refine Cr (Sv (oA0 fd25_0 rfl) (Sv (oL sc3 rfl (Bg1.cell rfl)) (Sv (oA0 fd25_0 rfl) (Sv (oL sc3 rfl (Bg2.cell rfl)) (Sv (o_neq rfl rfl) (Zm rfl (Sg rfl (dF hs1_0) (oA0 fd25_1 rfl) (Sg rfl (dF hs1_0) (oL sc4 rfl (Bg1.cell rfl)) (Sg rfl (dF hs1_0) (oA0 fd25_1 rfl) (Sg rfl (dF hs1_0) (oL sc4 rfl (Bg2.cell rfl)) (Sg rfl (dF hs1_0) (o_bsne Tryz.underlying4 rfl rfl) (Sv (oF (dF hs1_0) rfl rfl) (Zm rfl ?_)))))))))))))
       refine Sg rfl hs1_1 (oA0 fd25_2 rfl) (Sg rfl hs1_1 (oL sc3 rfl (Bg1.cell rfl)) (Sg rfl hs1_1 (oA0 fd25_2 rfl) (Sg rfl hs1_1 (oL sc3 rfl (Bg2.cell rfl)) (Sg rfl hs1_1 (o_neq rfl rfl) (Sv (oF hs1_1 rfl rfl) (Zm rfl (Sg rfl (dF hs1_2) (oA0 fd25_3 rfl) (Sg rfl (dF hs1_2) (oL sc9 rfl (Bg1.cell rfl)) (Sg rfl (dF hs1_2) (oA0 fd25_3 rfl) (Sg rfl (dF hs1_2) (oL sc9 rfl (Bg2.cell rfl)) (Sg rfl (dF hs1_2) (o_sne rfl rfl) (Sv (oF (dF hs1_2) rfl rfl) (Zm rfl ?_)))))))))))))
       refine Sg rfl (dF hs1_3) (oA0 fd25_4 rfl) (Sg rfl (dF hs1_3) (oL sc22 rfl (Bg1.cell rfl)) (Sg rfl (dF hs1_3) (o_len Tryz.underlying22 rfl) (Sg rfl (dF hs1_3) (oA0 fd25_4 rfl) (Sg rfl (dF hs1_3) (oL sc22 rfl (Bg2.cell rfl)) (Sg rfl (dF hs1_3) (o_len Tryz.underlying22 rfl) (Sg rfl (dF hs1_3) (o_neq rfl rfl) (Sv (oF (dF hs1_3) rfl rfl) (Zm rfl (Sg rfl (dF hs1_4) (oA0 fd25_5 rfl) (Sg rfl (dF hs1_4) (oL sc23 rfl (Bg1.cell rfl)) (Sg rfl (dF hs1_4) (o_len Tryz.underlying23 rfl) (Sg rfl (dF hs1_4) (oA0 fd25_5 rfl) (Sg rfl (dF hs1_4) (oL sc23 rfl (Bg2.cell rfl)) ?_)))))))))))))
       refine Sg rfl (dF hs1_4) (o_len Tryz.underlying23 rfl) (Sg rfl (dF hs1_4) (o_neq rfl rfl) (Sv (oF (dF hs1_4) rfl rfl) (Ln (e_K (hK3 _ _ _ _ ?_)))))
       refine c_if rfl (fun h50 => ?_) (fun h50 => absurd hs1_5 h50)
       exact Cq fun K8 hK8 => Cr (Za rfl (Ln (e_K (hK8 _ _ _ _ (cR (eT (by simp) (ret1 rfl rfl ⟨by rw [hz3], E⟩)))))))
      ·refine Cr (Sv (oA0 fd25_0 rfl) (Sv (oL sc3 rfl (Bg1.cell rfl)) (Sv (oA0 fd25_0 rfl) (Sv (oL sc3 rfl (Bg2.cell rfl)) (Sv (o_neq rfl rfl) (Zm rfl (Sg rfl (dF hs1_0) (oA0 fd25_1 rfl) (Sg rfl (dF hs1_0) (oL sc4 rfl (Bg1.cell rfl)) (Sg rfl (dF hs1_0) (oA0 fd25_1 rfl) (Sg rfl (dF hs1_0) (oL sc4 rfl (Bg2.cell rfl)) (Sg rfl (dF hs1_0) (o_bsne Tryz.underlying4 rfl rfl) (Sv (oF (dF hs1_0) rfl rfl) (Zm rfl ?_)))))))))))))
       refine Sg rfl hs1_1 (oA0 fd25_2 rfl) (Sg rfl hs1_1 (oL sc3 rfl (Bg1.cell rfl)) (Sg rfl hs1_1 (oA0 fd25_2 rfl) (Sg rfl hs1_1 (oL sc3 rfl (Bg2.cell rfl)) (Sg rfl hs1_1 (o_neq rfl rfl) (Sv (oF hs1_1 rfl rfl) (Zm rfl (Sg rfl (dF hs1_2) (oA0 fd25_3 rfl) (Sg rfl (dF hs1_2) (oL sc9 rfl (Bg1.cell rfl)) (Sg rfl (dF hs1_2) (oA0 fd25_3 rfl) (Sg rfl (dF hs1_2) (oL sc9 rfl (Bg2.cell rfl)) (Sg rfl (dF hs1_2) (o_sne rfl rfl) (Sv (oF (dF hs1_2) rfl rfl) (Zm rfl ?_)))))))))))))
       refine Sg rfl (dF hs1_3) (oA0 fd25_4 rfl) (Sg rfl (dF hs1_3) (oL sc22 rfl (Bg1.cell rfl)) (Sg rfl (dF hs1_3) (o_len Tryz.underlying22 rfl) (Sg rfl (dF hs1_3) (oA0 fd25_4 rfl) (Sg rfl (dF hs1_3) (oL sc22 rfl (Bg2.cell rfl)) (Sg rfl (dF hs1_3) (o_len Tryz.underlying22 rfl) (Sg rfl (dF hs1_3) (o_neq rfl rfl) (Sv (oF (dF hs1_3) rfl rfl) (Zm rfl (Sg rfl (dF hs1_4) (oA0 fd25_5 rfl) (Sg rfl (dF hs1_4) (oL sc23 rfl (Bg1.cell rfl)) (Sg rfl (dF hs1_4) (o_len Tryz.underlying23 rfl) (Sg rfl (dF hs1_4) (oA0 fd25_5 rfl) (Sg rfl (dF hs1_4) (oL sc23 rfl (Bg2.cell rfl)) ?_)))))))))))))
       refine Sg rfl (dF hs1_4) (o_len Tryz.underlying23 rfl) (Sg rfl (dF hs1_4) (o_neq rfl rfl) (Sv (oF (dF hs1_4) rfl rfl) (Ln (e_K (hK3 _ _ _ _ (c_if rfl (fun h50 => absurd h50 hs1_5) (fun h50 => cK (e_K (hK2 _ _ _ _ (Cq fun K9 hK9 => Cq fun K10 hK10 => Cr (Sv (oA0 fd25_4 rfl) (Sv (oL sc22 rfl (Bg1.cell rfl)) (Sv (o_len Tryz.underlying22 rfl) ?_)))))))))))))
       refine Zm rfl (Ln (e_K (hK10 _ _ _ _ (cB (c_loop (σ := Nat) (fun k => [(2, .pointer (some ⟨g1, 0, none⟩)), (3, .pointer (some ⟨g2, 0, none⟩)), (53, .int .i64 v.list.length), (54, .int .i64 (k : Int))]) (fun k w1 => k ≤ v.list.length ∧ (∀ (i : Nat) (a b : JV), i < k → v.list[i]? = some a → y.list[i]? = some b → a = b) ∧ Blk w1 g1 25 [.int .i64 v.kind, .bool v.is, .int .i64 v.num, S v.str, .slice al v.list.length cl, .slice am v.map.length cm] ∧ Blk w1 g2 25 [.int .i64 y.kind, .bool y.is, .int .i64 y.num, S y.str, .slice al2 y.list.length cl2, .slice am2 y.map.length cm2] ∧ Mod [] w w1) (fun k => v.list.length - k) (0) ⟨rfl, rfl, rfl, rfl, trivial⟩ (⟨by omega, fun i a b h => by omega, Bg1, Bg2, E⟩) ?_)))))
       rintro k w3 ⟨hk, hA, Bg1, Bg2, E⟩
       refine Cq fun K11 hK11 => Cr (Sv (o_lss rfl rfl) (Ln (e_K (hK11 _ _ _ _ (Cq fun K12 hK12 => ?_)))))
       refine c_if rfl (fun h55 => ?_) (fun h55 => ?_)
       ·obtain ⟨x, hx_x⟩ : ∃ x, v.list[k]? = some x := ⟨_, List.getElem?_eq_getElem (by omega)⟩
        obtain ⟨a_x, us_x, ha_x, R_x, hcs0_x⟩ := JV.at_l Rl hx_x
        obtain ⟨al_x, cl_x, am_x, cm_x, rfl, Rl_x, Rm_x⟩ := JV.cells_ R_x
        have hcs_x := hcs0_x.mod0 E
        have hcap_x := JV.cap_l Rl
        obtain rfl := ha_x
        obtain ⟨z, hx_z⟩ : ∃ x, y.list[k]? = some x := ⟨_, List.getElem?_eq_getElem (by omega)⟩
        obtain ⟨a_z, us_z, ha_z, R_z, hcs0_z⟩ := JV.at_l Rl2 hx_z
        obtain ⟨al_z, cl_z, am_z, cm_z, rfl, Rl_z, Rm_z⟩ := JV.cells_ R_z
        have hcs_z := hcs0_z.mod0 E
        have hcap_z := JV.cap_l Rl2
        obtain rfl := ha_z
        refine cK (e_K (hK12 _ _ _ _ (Cq fun K13 hK13 => cB (Cq fun K14 hK14 => Cr (Zm rfl (Za rfl (Ln (e_K (hK14 _ _ _ _ (Cq fun K15 hK15 => c_draw wide (by kernel_rfl) (tv (fun w_ E_ => (oA0 fd25_4 rfl)) rfl rfl (tv (fun w_ E_ => (oL sc22 rfl ((Bg1.mod0 E_).cell rfl))) rfl rfl ?_))))))))))))
        refine tv (fun w_ E_ => (oM rfl)) rfl rfl (tv (fun w_ E_ => (o_ix sl22 rfl rfl (by omega))) rfl rfl (tv (fun w_ E_ => (o_lda ag25 rfl rfl (hcs_x.mod0 E_))) rfl rfl (tv (fun w_ E_ => (oA0 fd25_4 rfl)) rfl rfl (tv (fun w_ E_ => (oL sc22 rfl ((Bg2.mod0 E_).cell rfl))) rfl rfl (tv (fun w_ E_ => (oM rfl)) rfl rfl (tv (fun w_ E_ => (o_ix sl22 rfl rfl (by omega))) rfl rfl (tv (fun w_ E_ => (o_lda ag25 rfl rfl (hcs_z.mod0 E_))) rfl rfl (tc (fun w_ E_ => oC ent24 rfl) (fun w_ E_ => ih _ x z _ _ (by have := JV.sz_in_list (List.mem_of_getElem? hx_x); omega) (R_x.to0 (E.then E_)) (R_z.to0 (E.then E_))) rfl rfl (tv (fun w_ E_ => (o_not rfl)) rfl rfl (tw_nil rfl fun w4 E_ => ?_))))))))))
        replace Bg1 := Bg1.mod0 E_
        replace Bg2 := Bg2.mod0 E_
        replace E := E.then E_
        refine e_K (hK15 _ _ _ _ ?_)
        refine c_cond rfl (fun h68 => ?_) (fun h68 => ?_)
        ·have hz3 : JV.eqJ v y = false := JV.eqJ_ne fun e => by
          subst e
          rw [hx_x] at hx_z
          injection hx_z with e
          subst e
          rw [JV.eqJ_self] at h68
          cases h68
         exact Cq fun K16 hK16 => Cr (Za rfl (Ln (e_K (hK16 _ _ _ _ (cR (eI (by simp) (eT (by simp) (eT (by simp) (eI (by simp) (eT (by simp) (ret1 rfl rfl ⟨by rw [hz3], E⟩)))))))))))
        ·have hA2 : ∀ (i : Nat) (a b : JV), i < k + 1 → v.list[i]? = some a → y.list[i]? = some b → a = b := fun i a b hi ha hb => by
          rcases Nat.lt_succ_iff_lt_or_eq.1 hi with h | h
          ·exact hA i a b h ha hb
          ·subst h
           rw [hx_x] at ha
           rw [hx_z] at hb
           injection ha with ha
           injection hb with hb
           subst ha; subst hb
           exact JV.eqJ_iff.1 (by simpa using h68)
         exact cK (eI (by simp) (e_K (hK13 _ _ _ _ (Cr (Sv (o_addN rfl rfl (by omega)) (Zm rfl (Ln (eR (σ := Nat) (s := k) (k + 1) ⟨rfl, rfl, rfl, rfl, trivial⟩ ⟨by omega, hA2, Bg1, Bg2, E⟩ (by omega)))))))))
       ·refine c_exit (eT (by simp) (eT (by simp) (e_hit (e_K (hK9 _ _ _ _ (Cq fun K17 hK17 => Cq fun K18 hK18 => Cr (Sv (oA0 fd25_5 rfl) (Sv (oL sc23 rfl (Bg1.cell rfl)) (Sv (o_len Tryz.underlying23 rfl) (Zm rfl (Ln (e_K (hK18 _ _ _ _ ?_)))))))))))))
        refine cB (c_loop (σ := Nat) (fun j => [(2, .pointer (some ⟨g1, 0, none⟩)), (3, .pointer (some ⟨g2, 0, none⟩)), (72, .int .i64 v.map.length), (73, .int .i64 (j : Int))]) (fun j w1 => j ≤ v.map.length ∧ (∀ (i : Nat) (a b : List UInt8 × JV), i < j → v.map[i]? = some a → y.map[i]? = some b → a = b) ∧ Blk w1 g1 25 [.int .i64 v.kind, .bool v.is, .int .i64 v.num, S v.str, .slice al v.list.length cl, .slice am v.map.length cm] ∧ Blk w1 g2 25 [.int .i64 y.kind, .bool y.is, .int .i64 y.num, S y.str, .slice al2 y.list.length cl2, .slice am2 y.map.length cm2] ∧ Mod [] w w1) (fun j => v.map.length - j) (0) ⟨rfl, rfl, rfl, rfl, trivial⟩ (⟨by omega, fun i a b h => by omega, Bg1, Bg2, E⟩) ?_)
        rintro j w5 ⟨hj, hB, Bg1, Bg2, E⟩
        refine Cq fun K19 hK19 => Cr (Sv (o_lss rfl rfl) (Ln (e_K (hK19 _ _ _ _ (Cq fun K20 hK20 => ?_)))))
        refine c_if rfl (fun h74 => ?_) (fun h74 => ?_)
        ·obtain ⟨x, hx_x⟩ : ∃ x, v.map[j]? = some x := ⟨_, List.getElem?_eq_getElem (by omega)⟩
         obtain ⟨a_x, us_x, ha_x, R_x, hcs0_x⟩ := JV.at_m Rm hx_x
         obtain ⟨al_x, cl_x, am_x, cm_x, rfl, Rl_x, Rm_x⟩ := JV.cells_ R_x
         have hcs_x := hcs0_x.mod0 E
         have hcap_x := JV.cap_m Rm
         obtain rfl := ha_x
         obtain ⟨z, hx_z⟩ : ∃ x, y.map[j]? = some x := ⟨_, List.getElem?_eq_getElem (by omega)⟩
         obtain ⟨a_z, us_z, ha_z, R_z, hcs0_z⟩ := JV.at_m Rm2 hx_z
         obtain ⟨al_z, cl_z, am_z, cm_z, rfl, Rl_z, Rm_z⟩ := JV.cells_ R_z
         have hcs_z := hcs0_z.mod0 E
         have hcap_z := JV.cap_m Rm2
         obtain rfl := ha_z
         refine cK (e_K (hK20 _ _ _ _ (Cq fun K21 hK21 => cB (Cq fun K22 hK22 => Cr (Zm rfl (Za rfl (Ln (e_K (hK22 _ _ _ _ (Cq fun K23 hK23 => ?_))))))))))
         by_cases hs12_0 : x.1 ≠ z.1
         ·refine c_draw wide (by kernel_rfl) (tv (fun w_ E_ => (oA0 fd25_5 rfl)) rfl rfl (tv (fun w_ E_ => (oL sc23 rfl ((Bg1.mod0 E_).cell rfl))) rfl rfl (tv (fun w_ E_ => (oM rfl)) rfl rfl (tv (fun w_ E_ => (o_ix sl23 rfl rfl (by omega))) rfl rfl (tv (fun w_ E_ => (o_fad fd41_0 rfl)) rfl rfl (tv (fun w_ E_ => (oL sc9 rfl ((hcs_x.mod0 E_) 0 _ rfl))) rfl rfl (tv (fun w_ E_ => (oA0 fd25_5 rfl)) rfl rfl (tv (fun w_ E_ => (oL sc23 rfl ((Bg2.mod0 E_).cell rfl))) rfl rfl (tv (fun w_ E_ => (oM rfl)) rfl rfl (tv (fun w_ E_ => (o_ix sl23 rfl rfl (by omega))) rfl rfl (tv (fun w_ E_ => (o_fad fd41_0 rfl)) rfl rfl (tv (fun w_ E_ => (oL sc9 rfl ((hcs_z.mod0 E_) 0 _ rfl))) rfl rfl (tv (fun w_ E_ => (o_sne rfl rfl)) rfl rfl ?_)))))))))))))
          refine tv (fun w_ E_ => (oM rfl)) rfl rfl (Tx rfl (dT hs12_0) (Tx rfl (dT hs12_0) (Tx rfl (dT hs12_0) (Tx rfl (dT hs12_0) (Tx rfl (dT hs12_0) (Tx rfl (dT hs12_0) (Tx rfl (dT hs12_0) (Tx rfl (dT hs12_0) (Tx rfl (dT hs12_0) (Tx rfl (dT hs12_0) (Tx rfl (dT hs12_0) (Tx rfl (dT hs12_0) (Tx rfl (dT hs12_0) ?_)))))))))))))
          refine Tx rfl (dT hs12_0) (tv (fun w_ E_ => (oT (dT hs12_0) rfl rfl)) rfl rfl (tw_nil rfl fun w6 E_ => ?_))
          replace Bg1 := Bg1.mod0 E_
          replace Bg2 := Bg2.mod0 E_
          replace E := E.then E_
          refine e_K (hK23 _ _ _ _ (c_true rfl ?_))
          have hz3 : JV.eqJ v y = false := JV.eqJ_ne fun e => by
           subst e
           rw [hx_x] at hx_z
           injection hx_z with e
           subst e
           exact hs12_0 rfl
          exact Cq fun K24 hK24 => Cr (Za rfl (Ln (e_K (hK24 _ _ _ _ (cR (eI (by simp) (eT (by simp) (eT (by simp) (eI (by simp) (eT (by simp) (ret1 rfl rfl ⟨by rw [hz3], E⟩)))))))))))
         ·refine c_draw wide (by kernel_rfl) (tv (fun w_ E_ => (oA0 fd25_5 rfl)) rfl rfl (tv (fun w_ E_ => (oL sc23 rfl ((Bg1.mod0 E_).cell rfl))) rfl rfl (tv (fun w_ E_ => (oM rfl)) rfl rfl (tv (fun w_ E_ => (o_ix sl23 rfl rfl (by omega))) rfl rfl (tv (fun w_ E_ => (o_fad fd41_0 rfl)) rfl rfl (tv (fun w_ E_ => (oL sc9 rfl ((hcs_x.mod0 E_) 0 _ rfl))) rfl rfl (tv (fun w_ E_ => (oA0 fd25_5 rfl)) rfl rfl (tv (fun w_ E_ => (oL sc23 rfl ((Bg2.mod0 E_).cell rfl))) rfl rfl (tv (fun w_ E_ => (oM rfl)) rfl rfl (tv (fun w_ E_ => (o_ix sl23 rfl rfl (by omega))) rfl rfl (tv (fun w_ E_ => (o_fad fd41_0 rfl)) rfl rfl (tv (fun w_ E_ => (oL sc9 rfl ((hcs_z.mod0 E_) 0 _ rfl))) rfl rfl (tv (fun w_ E_ => (o_sne rfl rfl)) rfl rfl ?_)))))))))))))
          refine tv (fun w_ E_ => (oM rfl)) rfl rfl (tvg rfl (dF hs12_0) (fun w_ E_ => (oA0 fd25_5 rfl)) rfl rfl (tvg rfl (dF hs12_0) (fun w_ E_ => (oL sc23 rfl ((Bg1.mod0 E_).cell rfl))) rfl rfl (tvg rfl (dF hs12_0) (fun w_ E_ => (oM rfl)) rfl rfl (tvg rfl (dF hs12_0) (fun w_ E_ => (o_ix sl23 rfl rfl (by omega))) rfl rfl (tvg rfl (dF hs12_0) (fun w_ E_ => (o_fad fd41_1 rfl)) rfl rfl (tvg rfl (dF hs12_0) (fun w_ E_ => (o_lda ag25 rfl rfl (hcs_x.mod0 E_).tail_)) rfl rfl (tvg rfl (dF hs12_0) (fun w_ E_ => (oA0 fd25_5 rfl)) rfl rfl (tvg rfl (dF hs12_0) (fun w_ E_ => (oL sc23 rfl ((Bg2.mod0 E_).cell rfl))) rfl rfl (tvg rfl (dF hs12_0) (fun w_ E_ => (oM rfl)) rfl rfl (tvg rfl (dF hs12_0) (fun w_ E_ => (o_ix sl23 rfl rfl (by omega))) rfl rfl (tvg rfl (dF hs12_0) (fun w_ E_ => (o_fad fd41_1 rfl)) rfl rfl (tvg rfl (dF hs12_0) (fun w_ E_ => (o_lda ag25 rfl rfl (hcs_z.mod0 E_).tail_)) rfl rfl (tcg rfl (dF hs12_0) (fun w_ E_ => oC ent24 rfl) (fun w_ E_ => ih _ x.2 z.2 _ _ (by have := JV.sz_in_map (List.mem_of_getElem? hx_x); omega) (R_x.to0 (E.then E_)) (R_z.to0 (E.then E_))) rfl rfl ?_)))))))))))))
          refine tvg rfl (dF hs12_0) (fun w_ E_ => (o_not rfl)) rfl rfl (tv (fun w_ E_ => (oF (dF hs12_0) rfl rfl)) rfl rfl (tw_nil rfl fun w7 E_ => ?_))
          replace Bg1 := Bg1.mod0 E_
          replace Bg2 := Bg2.mod0 E_
          replace E := E.then E_
          refine e_K (hK23 _ _ _ _ ?_)
          refine c_cond rfl (fun h104 => ?_) (fun h104 => ?_)
          ·have hz3 : JV.eqJ v y = false := JV.eqJ_ne fun e => by
            subst e
            rw [hx_x] at hx_z
            injection hx_z with e
            subst e
            rw [JV.eqJ_self] at h104
            cases h104
           exact Cq fun K25 hK25 => Cr (Za rfl (Ln (e_K (hK25 _ _ _ _ (cR (eI (by simp) (eT (by simp) (eT (by simp) (eI (by simp) (eT (by simp) (ret1 rfl rfl ⟨by rw [hz3], E⟩)))))))))))
          ·have hB2 : ∀ (i : Nat) (a b : List UInt8 × JV), i < j + 1 → v.map[i]? = some a → y.map[i]? = some b → a = b := fun i a b hi ha hb => by
            rcases Nat.lt_succ_iff_lt_or_eq.1 hi with h | h
            ·exact hB i a b h ha hb
            ·subst h
             rw [hx_x] at ha
             rw [hx_z] at hb
             injection ha with ha
             injection hb with hb
             subst ha; subst hb
             exact Prod.ext (Classical.byContradiction hs12_0) (JV.eqJ_iff.1 (by simpa using h104))
           exact cK (eI (by simp) (e_K (hK21 _ _ _ _ (Cr (Sv (o_addN rfl rfl (by omega)) (Zm rfl (Ln (eR (σ := Nat) (s := j) (j + 1) ⟨rfl, rfl, rfl, rfl, trivial⟩ ⟨by omega, hB2, Bg1, Bg2, E⟩ (by omega)))))))))
        ·exact c_exit (eT (by simp) (eT (by simp) (e_hit (e_K (hK17 _ _ _ _ (Cq fun K26 hK26 => Cr (Za rfl (Ln (e_K (hK26 _ _ _ _ (cR (ret1 rfl rfl ⟨by rw [JV.eqJ_iff.2 (JV.ext_ (Classical.byContradiction hs1_0) (by simpa using hs1_1) (Classical.byContradiction hs1_2) (Classical.byContradiction hs1_3) (JV.list_ext_ (by omega) fun i a b hi ha hb => hA i a b (by omega) ha hb) (JV.list_ext_ (by omega) fun i a b hi ha hb => hB i a b (by omega) ha hb))], E⟩))))))))))))
  ·have hz3 : JV.eqJ v y = false := JV.eqJ_ne fun e => (by subst e; simp at hs1_1)
   refine Cr (Sv (oA0 fd25_0 rfl) (Sv (oL sc3 rfl (Bg1.cell rfl)) (Sv (oA0 fd25_0 rfl) (Sv (oL sc3 rfl (Bg2.cell rfl)) (Sv (o_neq rfl rfl) (Zm rfl (Sg rfl (dF hs1_0) (oA0 fd25_1 rfl) (Sg rfl (dF hs1_0) (oL sc4 rfl (Bg1.cell rfl)) (Sg rfl (dF hs1_0) (oA0 fd25_1 rfl) (Sg rfl (dF hs1_0) (oL sc4 rfl (Bg2.cell rfl)) (Sg rfl (dF hs1_0) (o_bsne Tryz.underlying4 rfl rfl) (Sv (oF (dF hs1_0) rfl rfl) (Zm rfl ?_)))))))))))))
   refine Sx rfl hs1_1 (Sx rfl hs1_1 (Sx rfl hs1_1 (Sx rfl hs1_1 (Sx rfl hs1_1 (Sv (oT hs1_1 rfl rfl) (Zm rfl (Sx rfl rfl (Sx rfl rfl (Sx rfl rfl (Sx rfl rfl (Sx rfl rfl (Sv (oT rfl rfl rfl) (Zm rfl ?_)))))))))))))
   refine Sx rfl rfl (Sx rfl rfl (Sx rfl rfl (Sx rfl rfl (Sx rfl rfl (Sx rfl rfl (Sx rfl rfl (Sv (oT rfl rfl rfl) (Zm rfl (Sx rfl rfl (Sx rfl rfl (Sx rfl rfl (Sx rfl rfl (Sx rfl rfl ?_)))))))))))))
   exact Sx rfl rfl (Sx rfl rfl (Sv (oT rfl rfl rfl) (Ln (e_K (hK3 _ _ _ _ (c_true rfl (Cq fun K27 hK27 => Cr (Za rfl (Ln (e_K (hK27 _ _ _ _ (cR (eT (by simp) (ret1 rfl rfl ⟨by rw [hz3], E⟩))))))))))))))

theorem c_same_all : ∀ N : Nat, ∀ (w : World) (v y : JV) (us vs : List Value), v.sz ≤ N → Reps [] w v.D us → Reps [] w y.D vs → Calls Tryz.prog 24 [.agg us.toArray, .agg vs.toArray].toArray w (Ret fun u w' => u = .bool (JV.eqJ v y) ∧ Mod [] w w')
 | 0, w, v, y, us, vs, h, R, R2 => absurd (JV.sz_eq v) (by omega)
 | N + 1, w, v, y, us, vs, h, R, R2 => c_same_step N (c_same_all N) w v y us vs h R R2
theorem c_same (w : World) (v y : JV) (us vs : List Value) (R : Reps [] w v.D us) (R2 : Reps [] w y.D vs) : Calls Tryz.prog 24 [.agg us.toArray, .agg vs.toArray].toArray w (Ret fun u w' => u = .bool (JV.eqJ v y) ∧ Mod [] w w') := c_same_all v.sz w v y us vs (Nat.le_refl _) R R2
end Go.Proofs.YtkhbnhdlelmbnaaGreatDoor.V
