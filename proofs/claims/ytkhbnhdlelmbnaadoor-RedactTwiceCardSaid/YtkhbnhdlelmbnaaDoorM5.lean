/-
  A part of the proof: walks of functions. No condition of its own.
-/
import Derived.Test.YtkhbnhdlelmbnaaDoorM4
import Derived.Test.YtkhbnhdlelmbnaaDoorProg
set_option linter.unusedVariables false
set_option linter.unusedSimpArgs false
set_option maxRecDepth 10000
namespace Go.Proofs.YtkhbnhdlelmbnaaDoor.V
open Go Go.Proofs
theorem fd25_3 : fdB Tryd.prog 25 3 3 1 = true := by kernel_rfl
theorem sc9 : scB Tryd.prog 9 = true := by kernel_rfl
theorem fd25_4 : fdB Tryd.prog 25 4 4 1 = true := by kernel_rfl
theorem sc22 : scB Tryd.prog 22 = true := by kernel_rfl
theorem sl22 : slB Tryd.prog 22 25 6 88 = true := by kernel_rfl
theorem ag25 : agB Tryd.prog 25 6 = true := by kernel_rfl
theorem ent21 : Ent Tryd.prog 21 := Ent.of Tryd.func21 (by kernel_rfl) (by kernel_rfl)
theorem fd25_5 : fdB Tryd.prog 25 5 5 1 = true := by kernel_rfl
theorem sc23 : scB Tryd.prog 23 = true := by kernel_rfl
theorem wide : Tryd.prog.follows .mixedOrders = true := by kernel_rfl
theorem sl23 : slB Tryd.prog 23 62 7 104 = true := by kernel_rfl
theorem fd62_1 : fdB Tryd.prog 62 1 1 6 = true := by kernel_rfl
theorem fd62_0 : fdB Tryd.prog 62 0 0 1 = true := by kernel_rfl
theorem ag62 : agB Tryd.prog 62 7 = true := by kernel_rfl
theorem zv62 : zvB Tryd.prog 62 ([S [], .int .i64 0, .bool false, .int .i64 0, S [], .slice none 0 0, .slice none 0 0]) := by unfold zvB; kernel_rfl
theorem ent14 : Ent Tryd.prog 14 := Ent.of Tryd.func14 (by kernel_rfl) (by kernel_rfl)
theorem zv25 : zvB Tryd.prog 25 ([.int .i64 0, .bool false, .int .i64 0, S [], .slice none 0 0, .slice none 0 0]) := by unfold zvB; kernel_rfl
theorem c_weigh_step (N : Nat) (ih : ∀ (w : World) (v : JV) (us : List Value) (left deep : Int), v.sz ≤ N → Reps [] w v.D us → Calls Tryd.prog 21 [.agg us.toArray, .int .i64 left, .int .i64 deep].toArray w (Ret fun u w' => u = .int .i64 (v.weigh left deep) ∧ Mod [] w w')) (w : World) (v : JV) (us : List Value) (left deep : Int) (hN : v.sz ≤ N + 1) (R : Reps [] w v.D us) : Calls Tryd.prog 21 [.agg us.toArray, .int .i64 left, .int .i64 deep].toArray w (Ret fun u w' => u = .int .i64 (v.weigh left deep) ∧ Mod [] w w') := by
  refine enter Tryd.func21 rfl rfl rfl (l := [(0, _), (1, _), (2, _)]) ⟨rfl, rfl, rfl, trivial⟩ ?_
  have E := Mod.refl [] w
  obtain ⟨al, cl, am, cm, rfl, Rl, Rm⟩ := JV.cells_ R
  refine c_seq fun K1 hK1 => ?_
  refine c_region ?_
  refine s_box rfl rfl rfl fun g1 w1 N1 => ?_
  have Lg1_E := N1.le E
  replace E := E.then N1.mod
  have Bg1 := N1.blk
  refine sv (o_as rfl) rfl ?_
  refine l_nil ?_
  refine e_K (hK1 _ _ _ _ ?_)
  refine c_seq fun K2 hK2 => ?_
  refine c_region ?_
  refine sv (o_mv rfl) rfl ?_
  refine sv (o_sub rfl rfl) rfl ?_
  refine sv (o_fa0 fd25_3 rfl) rfl ?_
  refine sv (o_ld sc9 rfl (Bg1.cell rfl)) rfl ?_
  refine sv (o_slen Tryd.underlying9 rfl) rfl ?_
  refine sv (o_sub rfl rfl) rfl ?_
  refine sv (o_as rfl) rfl ?_
  refine l_nil ?_
  refine e_K (hK2 _ _ _ _ ?_)
  refine c_seq fun K3 hK3 => ?_
  refine c_seq fun K4 hK4 => ?_
  refine c_region ?_
  refine sv (o_mv rfl) rfl ?_
  refine sv (o_eql rfl rfl) rfl ?_
  refine l_nil ?_
  refine e_K (hK4 _ _ _ _ ?_)
  refine c_if rfl (fun h16 => ?_) (fun h16 => ?_)
  · skip
    refine c_seq fun K5 hK5 => ?_
    refine c_region ?_
    refine sv (o_as rfl) rfl ?_
    refine l_nil ?_
    refine e_K (hK5 _ _ _ _ ?_)
    refine c_ret ?_
    refine e_then (by simp) ?_
    exact ret1 rfl rfl ⟨by rw [JV.weigh_eq, if_pos h16], E⟩
  · skip
    have hd0 : ¬ deep = 0 := h16
    have hW := JV.weigh_eq v left deep
    rw [if_neg hd0] at hW
    refine c_skip ?_
    refine e_K (hK3 _ _ _ _ ?_)
    refine c_seq fun K6 hK6 => ?_
    refine c_seq fun K7 hK7 => ?_
    refine c_region ?_
    refine sv (o_as rfl) rfl ?_
    refine l_nil ?_
    refine e_K (hK7 _ _ _ _ ?_)
    refine c_block ?_
    refine c_loop (σ := Nat × Int) (fun ⟨k, z⟩ => [(1, .int .i64 z), (2, .int .i64 deep), (3, .pointer (some ⟨g1, 0, none⟩)), (7, .int .i64 (k : Int))]) (fun ⟨k, z⟩ w1 => k ≤ v.list.length ∧ JV.weighl (v.list.drop k) z (w64 (deep - 1)) = JV.weighl v.list (w64 (w64 (left - 1) - v.str.length)) (w64 (deep - 1)) ∧ Blk w1 g1 25 [.int .i64 v.kind, .bool v.is, .int .i64 v.num, S v.str, .slice al v.list.length cl, .slice am v.map.length cm] ∧ Mod [] w w1) (fun ⟨k, z⟩ => v.list.length - k) (⟨0, (w64 (w64 (left - 1) - v.str.length))⟩) ⟨rfl, rfl, rfl, rfl, trivial⟩ (⟨by omega, rfl, Bg1, E⟩) ?_
    rintro ⟨k, z⟩ w2 ⟨hk, hz1, Bg1, E⟩
    refine c_seq fun K8 hK8 => ?_
    refine c_seq fun K9 hK9 => ?_
    by_cases hs5_0 : (k : Int) < (v.list.length : Int)
    · skip
      refine c_region ?_
      refine sv (o_mv rfl) rfl ?_
      refine sv (o_fa0 fd25_4 rfl) rfl ?_
      refine sv (o_ld sc22 rfl (Bg1.cell rfl)) rfl ?_
      refine sv (o_len Tryd.underlying22 rfl) rfl ?_
      refine sv (o_lss rfl rfl) rfl ?_
      refine sv (o_mv rfl) rfl ?_
      refine sg rfl (decide_eq_true hs5_0) (o_mv rfl) rfl ?_
      refine sg rfl (decide_eq_true hs5_0) (o_geq rfl rfl) rfl ?_
      refine sv (o_pickT (decide_eq_true hs5_0) rfl rfl) rfl ?_
      refine l_nil ?_
      refine e_K (hK9 _ _ _ _ ?_)
      refine c_if rfl (fun h25 => ?_) (fun h25 => ?_)
      · skip
        obtain ⟨x, hx_x⟩ : ∃ x, v.list[k]? = some x := ⟨_, List.getElem?_eq_getElem (by omega)⟩
        obtain ⟨a_x, us_x, ha_x, R_x, hcs0_x⟩ := JV.at_l Rl hx_x
        obtain ⟨al_x, cl_x, am_x, cm_x, rfl, Rl_x, Rm_x⟩ := JV.cells_ R_x
        have hcs_x := hcs0_x.mod0 E
        have hcap_x := JV.cap_l Rl
        obtain rfl := ha_x
        have hz : ¬ z < 0 := by omega
        have hS := JV.weighl_at (d := (w64 (deep - 1))) hx_x hz
        refine c_skip ?_
        refine e_K (hK8 _ _ _ _ ?_)
        refine c_seq fun K10 hK10 => ?_
        refine c_block ?_
        refine c_region ?_
        refine sv (o_fa0 fd25_4 rfl) rfl ?_
        refine sv (o_ld sc22 rfl (Bg1.cell rfl)) rfl ?_
        refine sv (o_mv rfl) rfl ?_
        refine sv (o_ix sl22 rfl rfl (by omega)) rfl ?_
        refine sv (o_lda ag25 rfl rfl hcs_x) rfl ?_
        refine sv (o_mv rfl) rfl ?_
        refine sv (o_mv rfl) rfl ?_
        refine sv (o_sub rfl rfl) rfl ?_
        refine sc (o_call ent21 rfl) (ih _ x _ z _ (by have := JV.sz_in_list (List.mem_of_getElem? hx_x); omega) (R_x.to0 E)) rfl fun v_ w3 h_ => ?_
        obtain ⟨rfl, E_⟩ := h_
        replace Bg1 := Bg1.mod0 E_
        replace E := E.then E_
        refine sv (o_as rfl) rfl ?_
        refine l_nil ?_
        refine e_in (by simp) ?_
        refine e_K (hK10 _ _ _ _ ?_)
        refine c_region ?_
        refine sv (o_mv rfl) rfl ?_
        refine sv (o_addN rfl rfl (by omega)) rfl ?_
        refine sv (o_as rfl) rfl ?_
        refine l_nil ?_
        have hcap := JV.cap_l Rl
        exact e_round (σ := Nat × Int) (s := ⟨k, z⟩) (⟨k + 1, x.weigh z (w64 (deep - 1))⟩) ⟨rfl, rfl, rfl, rfl, trivial⟩ ⟨by omega, by rw [← hS]; exact hz1, Bg1, E⟩ (by dsimp only; omega)
      · skip
        have hz2 : JV.weighl v.list (w64 (w64 (left - 1) - v.str.length)) (w64 (deep - 1)) = z := by rw [← hz1]; exact JV.weighl_neg (by omega)
        refine c_exit ?_
        refine e_then (by simp) ?_
        refine e_then (by simp) ?_
        refine e_hit ?_
        refine e_K (hK6 _ _ _ _ ?_)
        refine c_seq fun K11 hK11 => ?_
        refine c_seq fun K12 hK12 => ?_
        refine c_region ?_
        refine sv (o_as rfl) rfl ?_
        refine l_nil ?_
        refine e_K (hK12 _ _ _ _ ?_)
        refine c_block ?_
        refine c_loop (σ := Nat × Int) (fun ⟨k, y⟩ => [(1, .int .i64 y), (2, .int .i64 deep), (3, .pointer (some ⟨g1, 0, none⟩)), (8, .int .i64 (k : Int))]) (fun ⟨k, y⟩ w1 => k ≤ v.map.length ∧ JV.weighm (v.map.drop k) y (w64 (deep - 1)) = JV.weighm v.map z (w64 (deep - 1)) ∧ Blk w1 g1 25 [.int .i64 v.kind, .bool v.is, .int .i64 v.num, S v.str, .slice al v.list.length cl, .slice am v.map.length cm] ∧ Mod [] w w1) (fun ⟨k, y⟩ => v.map.length - k) (⟨0, z⟩) ⟨rfl, rfl, rfl, rfl, trivial⟩ (⟨by omega, rfl, Bg1, E⟩) ?_
        rintro ⟨k, y⟩ w4 ⟨hk, hy1, Bg1, E⟩
        refine c_seq fun K13 hK13 => ?_
        refine c_seq fun K14 hK14 => ?_
        by_cases hs9_0 : (k : Int) < (v.map.length : Int)
        · skip
          refine c_region ?_
          refine sv (o_mv rfl) rfl ?_
          refine sv (o_fa0 fd25_5 rfl) rfl ?_
          refine sv (o_ld sc23 rfl (Bg1.cell rfl)) rfl ?_
          refine sv (o_len Tryd.underlying23 rfl) rfl ?_
          refine sv (o_lss rfl rfl) rfl ?_
          refine sv (o_mv rfl) rfl ?_
          refine sg rfl (decide_eq_true hs9_0) (o_mv rfl) rfl ?_
          refine sg rfl (decide_eq_true hs9_0) (o_geq rfl rfl) rfl ?_
          refine sv (o_pickT (decide_eq_true hs9_0) rfl rfl) rfl ?_
          refine l_nil ?_
          refine e_K (hK14 _ _ _ _ ?_)
          refine c_if rfl (fun h45 => ?_) (fun h45 => ?_)
          · skip
            obtain ⟨x, hx_x⟩ : ∃ x, v.map[k]? = some x := ⟨_, List.getElem?_eq_getElem (by omega)⟩
            obtain ⟨a_x, us_x, ha_x, R_x, hcs0_x⟩ := JV.at_m Rm hx_x
            obtain ⟨al_x, cl_x, am_x, cm_x, rfl, Rl_x, Rm_x⟩ := JV.cells_ R_x
            have hcs_x := hcs0_x.mod0 E
            have hcap_x := JV.cap_m Rm
            obtain rfl := ha_x
            have hz : ¬ y < 0 := by omega
            have hS := JV.weighm_at (d := (w64 (deep - 1))) hx_x hz
            refine c_skip ?_
            refine e_K (hK13 _ _ _ _ ?_)
            refine c_seq fun K15 hK15 => ?_
            refine c_block ?_
            refine c_draw wide (by kernel_rfl) ?_
            refine tv (fun w_ E_ => (o_fa0 fd25_5 rfl)) rfl rfl ?_
            refine tv (fun w_ E_ => (o_ld sc23 rfl ((Bg1.mod0 E_).cell rfl))) rfl rfl ?_
            refine tv (fun w_ E_ => (o_mv rfl)) rfl rfl ?_
            refine tv (fun w_ E_ => (o_ix sl23 rfl rfl (by omega))) rfl rfl ?_
            refine tv (fun w_ E_ => (o_fad fd62_1 rfl)) rfl rfl ?_
            refine tv (fun w_ E_ => (o_lda ag25 rfl rfl (hcs_x.mod0 E_).tail_)) rfl rfl ?_
            refine tv (fun w_ E_ => (o_mv rfl)) rfl rfl ?_
            refine tv (fun w_ E_ => (o_fa0 fd25_5 rfl)) rfl rfl ?_
            refine tv (fun w_ E_ => (o_ld sc23 rfl ((Bg1.mod0 E_).cell rfl))) rfl rfl ?_
            refine tv (fun w_ E_ => (o_mv rfl)) rfl rfl ?_
            refine tv (fun w_ E_ => (o_ix sl23 rfl rfl (by omega))) rfl rfl ?_
            refine tv (fun w_ E_ => (o_fad fd62_0 rfl)) rfl rfl ?_
            refine tv (fun w_ E_ => (o_ld sc9 rfl ((hcs_x.mod0 E_) 0 _ rfl))) rfl rfl ?_
            refine tv (fun w_ E_ => (o_slen Tryd.underlying9 rfl)) rfl rfl ?_
            refine tv (fun w_ E_ => (o_sub rfl rfl)) rfl rfl ?_
            refine tv (fun w_ E_ => (o_mv rfl)) rfl rfl ?_
            refine tv (fun w_ E_ => (o_sub rfl rfl)) rfl rfl ?_
            refine tc (fun w_ E_ => o_call ent21 rfl) (fun w_ E_ => ih _ x.2 _ _ _ (by have := JV.sz_in_map (List.mem_of_getElem? hx_x); omega) (R_x.to0 (E.then E_))) rfl rfl ?_
            refine tv (fun w_ E_ => (o_as rfl)) rfl rfl ?_
            refine tw_nil rfl fun w5 E_ => ?_
            replace Bg1 := Bg1.mod0 E_
            replace E := E.then E_
            refine e_in (by simp) ?_
            refine e_K (hK15 _ _ _ _ ?_)
            refine c_region ?_
            refine sv (o_mv rfl) rfl ?_
            refine sv (o_addN rfl rfl (by omega)) rfl ?_
            refine sv (o_as rfl) rfl ?_
            refine l_nil ?_
            have hcap := JV.cap_m Rm
            exact e_round (σ := Nat × Int) (s := ⟨k, y⟩) (⟨k + 1, x.2.weigh (w64 (y - x.1.length)) (w64 (deep - 1))⟩) ⟨rfl, rfl, rfl, rfl, trivial⟩ ⟨by omega, by rw [← hS]; exact hy1, Bg1, E⟩ (by dsimp only; omega)
          · skip
            have hz3 : v.weigh left deep = y := by rw [hW, hz2, ← hy1]; exact JV.weighm_neg (by omega)
            refine c_exit ?_
            refine e_then (by simp) ?_
            refine e_then (by simp) ?_
            refine e_hit ?_
            refine e_K (hK11 _ _ _ _ ?_)
            refine c_seq fun K16 hK16 => ?_
            refine c_region ?_
            refine sv (o_mv rfl) rfl ?_
            refine sv (o_as rfl) rfl ?_
            refine l_nil ?_
            refine e_K (hK16 _ _ _ _ ?_)
            refine c_ret ?_
            exact ret1 rfl rfl ⟨by rw [hz3], E⟩
        · skip
          refine c_region ?_
          refine sv (o_mv rfl) rfl ?_
          refine sv (o_fa0 fd25_5 rfl) rfl ?_
          refine sv (o_ld sc23 rfl (Bg1.cell rfl)) rfl ?_
          refine sv (o_len Tryd.underlying23 rfl) rfl ?_
          refine sv (o_lss rfl rfl) rfl ?_
          refine sv (o_mv rfl) rfl ?_
          refine sn rfl (fun e_ => absurd ((decide_eq_false hs9_0).symm.trans e_) (by decide)) rfl ?_
          refine sn rfl (fun e_ => absurd ((decide_eq_false hs9_0).symm.trans e_) (by decide)) rfl ?_
          refine sv (o_pickF (decide_eq_false hs9_0) rfl rfl) rfl ?_
          refine l_nil ?_
          refine e_K (hK14 _ _ _ _ ?_)
          refine c_false rfl ?_
          have hz3 : v.weigh left deep = y := by rw [hW, hz2, ← hy1]; exact JV.weighm_end (by omega)
          refine c_exit ?_
          refine e_then (by simp) ?_
          refine e_then (by simp) ?_
          refine e_hit ?_
          refine e_K (hK11 _ _ _ _ ?_)
          refine c_seq fun K17 hK17 => ?_
          refine c_region ?_
          refine sv (o_mv rfl) rfl ?_
          refine sv (o_as rfl) rfl ?_
          refine l_nil ?_
          refine e_K (hK17 _ _ _ _ ?_)
          refine c_ret ?_
          exact ret1 rfl rfl ⟨by rw [hz3], E⟩
    · skip
      refine c_region ?_
      refine sv (o_mv rfl) rfl ?_
      refine sv (o_fa0 fd25_4 rfl) rfl ?_
      refine sv (o_ld sc22 rfl (Bg1.cell rfl)) rfl ?_
      refine sv (o_len Tryd.underlying22 rfl) rfl ?_
      refine sv (o_lss rfl rfl) rfl ?_
      refine sv (o_mv rfl) rfl ?_
      refine sn rfl (fun e_ => absurd ((decide_eq_false hs5_0).symm.trans e_) (by decide)) rfl ?_
      refine sn rfl (fun e_ => absurd ((decide_eq_false hs5_0).symm.trans e_) (by decide)) rfl ?_
      refine sv (o_pickF (decide_eq_false hs5_0) rfl rfl) rfl ?_
      refine l_nil ?_
      refine e_K (hK9 _ _ _ _ ?_)
      refine c_false rfl ?_
      have hz2 : JV.weighl v.list (w64 (w64 (left - 1) - v.str.length)) (w64 (deep - 1)) = z := by rw [← hz1]; exact JV.weighl_end (by omega)
      refine c_exit ?_
      refine e_then (by simp) ?_
      refine e_then (by simp) ?_
      refine e_hit ?_
      refine e_K (hK6 _ _ _ _ ?_)
      refine c_seq fun K18 hK18 => ?_
      refine c_seq fun K19 hK19 => ?_
      refine c_region ?_
      refine sv (o_as rfl) rfl ?_
      refine l_nil ?_
      refine e_K (hK19 _ _ _ _ ?_)
      refine c_block ?_
      refine c_loop (σ := Nat × Int) (fun ⟨k, y⟩ => [(1, .int .i64 y), (2, .int .i64 deep), (3, .pointer (some ⟨g1, 0, none⟩)), (8, .int .i64 (k : Int))]) (fun ⟨k, y⟩ w1 => k ≤ v.map.length ∧ JV.weighm (v.map.drop k) y (w64 (deep - 1)) = JV.weighm v.map z (w64 (deep - 1)) ∧ Blk w1 g1 25 [.int .i64 v.kind, .bool v.is, .int .i64 v.num, S v.str, .slice al v.list.length cl, .slice am v.map.length cm] ∧ Mod [] w w1) (fun ⟨k, y⟩ => v.map.length - k) (⟨0, z⟩) ⟨rfl, rfl, rfl, rfl, trivial⟩ (⟨by omega, rfl, Bg1, E⟩) ?_
      rintro ⟨k, y⟩ w6 ⟨hk, hy1, Bg1, E⟩
      refine c_seq fun K20 hK20 => ?_
      refine c_seq fun K21 hK21 => ?_
      by_cases hs9_0 : (k : Int) < (v.map.length : Int)
      · skip
        refine c_region ?_
        refine sv (o_mv rfl) rfl ?_
        refine sv (o_fa0 fd25_5 rfl) rfl ?_
        refine sv (o_ld sc23 rfl (Bg1.cell rfl)) rfl ?_
        refine sv (o_len Tryd.underlying23 rfl) rfl ?_
        refine sv (o_lss rfl rfl) rfl ?_
        refine sv (o_mv rfl) rfl ?_
        refine sg rfl (decide_eq_true hs9_0) (o_mv rfl) rfl ?_
        refine sg rfl (decide_eq_true hs9_0) (o_geq rfl rfl) rfl ?_
        refine sv (o_pickT (decide_eq_true hs9_0) rfl rfl) rfl ?_
        refine l_nil ?_
        refine e_K (hK21 _ _ _ _ ?_)
        refine c_if rfl (fun h45 => ?_) (fun h45 => ?_)
        · skip
          obtain ⟨x, hx_x⟩ : ∃ x, v.map[k]? = some x := ⟨_, List.getElem?_eq_getElem (by omega)⟩
          obtain ⟨a_x, us_x, ha_x, R_x, hcs0_x⟩ := JV.at_m Rm hx_x
          obtain ⟨al_x, cl_x, am_x, cm_x, rfl, Rl_x, Rm_x⟩ := JV.cells_ R_x
          have hcs_x := hcs0_x.mod0 E
          have hcap_x := JV.cap_m Rm
          obtain rfl := ha_x
          have hz : ¬ y < 0 := by omega
          have hS := JV.weighm_at (d := (w64 (deep - 1))) hx_x hz
          refine c_skip ?_
          refine e_K (hK20 _ _ _ _ ?_)
          refine c_seq fun K22 hK22 => ?_
          refine c_block ?_
          refine c_draw wide (by kernel_rfl) ?_
          refine tv (fun w_ E_ => (o_fa0 fd25_5 rfl)) rfl rfl ?_
          refine tv (fun w_ E_ => (o_ld sc23 rfl ((Bg1.mod0 E_).cell rfl))) rfl rfl ?_
          refine tv (fun w_ E_ => (o_mv rfl)) rfl rfl ?_
          refine tv (fun w_ E_ => (o_ix sl23 rfl rfl (by omega))) rfl rfl ?_
          refine tv (fun w_ E_ => (o_fad fd62_1 rfl)) rfl rfl ?_
          refine tv (fun w_ E_ => (o_lda ag25 rfl rfl (hcs_x.mod0 E_).tail_)) rfl rfl ?_
          refine tv (fun w_ E_ => (o_mv rfl)) rfl rfl ?_
          refine tv (fun w_ E_ => (o_fa0 fd25_5 rfl)) rfl rfl ?_
          refine tv (fun w_ E_ => (o_ld sc23 rfl ((Bg1.mod0 E_).cell rfl))) rfl rfl ?_
          refine tv (fun w_ E_ => (o_mv rfl)) rfl rfl ?_
          refine tv (fun w_ E_ => (o_ix sl23 rfl rfl (by omega))) rfl rfl ?_
          refine tv (fun w_ E_ => (o_fad fd62_0 rfl)) rfl rfl ?_
          refine tv (fun w_ E_ => (o_ld sc9 rfl ((hcs_x.mod0 E_) 0 _ rfl))) rfl rfl ?_
          refine tv (fun w_ E_ => (o_slen Tryd.underlying9 rfl)) rfl rfl ?_
          refine tv (fun w_ E_ => (o_sub rfl rfl)) rfl rfl ?_
          refine tv (fun w_ E_ => (o_mv rfl)) rfl rfl ?_
          refine tv (fun w_ E_ => (o_sub rfl rfl)) rfl rfl ?_
          refine tc (fun w_ E_ => o_call ent21 rfl) (fun w_ E_ => ih _ x.2 _ _ _ (by have := JV.sz_in_map (List.mem_of_getElem? hx_x); omega) (R_x.to0 (E.then E_))) rfl rfl ?_
          refine tv (fun w_ E_ => (o_as rfl)) rfl rfl ?_
          refine tw_nil rfl fun w7 E_ => ?_
          replace Bg1 := Bg1.mod0 E_
          replace E := E.then E_
          refine e_in (by simp) ?_
          refine e_K (hK22 _ _ _ _ ?_)
          refine c_region ?_
          refine sv (o_mv rfl) rfl ?_
          refine sv (o_addN rfl rfl (by omega)) rfl ?_
          refine sv (o_as rfl) rfl ?_
          refine l_nil ?_
          have hcap := JV.cap_m Rm
          exact e_round (σ := Nat × Int) (s := ⟨k, y⟩) (⟨k + 1, x.2.weigh (w64 (y - x.1.length)) (w64 (deep - 1))⟩) ⟨rfl, rfl, rfl, rfl, trivial⟩ ⟨by omega, by rw [← hS]; exact hy1, Bg1, E⟩ (by dsimp only; omega)
        · skip
          have hz3 : v.weigh left deep = y := by rw [hW, hz2, ← hy1]; exact JV.weighm_neg (by omega)
          refine c_exit ?_
          refine e_then (by simp) ?_
          refine e_then (by simp) ?_
          refine e_hit ?_
          refine e_K (hK18 _ _ _ _ ?_)
          refine c_seq fun K23 hK23 => ?_
          refine c_region ?_
          refine sv (o_mv rfl) rfl ?_
          refine sv (o_as rfl) rfl ?_
          refine l_nil ?_
          refine e_K (hK23 _ _ _ _ ?_)
          refine c_ret ?_
          exact ret1 rfl rfl ⟨by rw [hz3], E⟩
      · skip
        refine c_region ?_
        refine sv (o_mv rfl) rfl ?_
        refine sv (o_fa0 fd25_5 rfl) rfl ?_
        refine sv (o_ld sc23 rfl (Bg1.cell rfl)) rfl ?_
        refine sv (o_len Tryd.underlying23 rfl) rfl ?_
        refine sv (o_lss rfl rfl) rfl ?_
        refine sv (o_mv rfl) rfl ?_
        refine sn rfl (fun e_ => absurd ((decide_eq_false hs9_0).symm.trans e_) (by decide)) rfl ?_
        refine sn rfl (fun e_ => absurd ((decide_eq_false hs9_0).symm.trans e_) (by decide)) rfl ?_
        refine sv (o_pickF (decide_eq_false hs9_0) rfl rfl) rfl ?_
        refine l_nil ?_
        refine e_K (hK21 _ _ _ _ ?_)
        refine c_false rfl ?_
        have hz3 : v.weigh left deep = y := by rw [hW, hz2, ← hy1]; exact JV.weighm_end (by omega)
        refine c_exit ?_
        refine e_then (by simp) ?_
        refine e_then (by simp) ?_
        refine e_hit ?_
        refine e_K (hK18 _ _ _ _ ?_)
        refine c_seq fun K24 hK24 => ?_
        refine c_region ?_
        refine sv (o_mv rfl) rfl ?_
        refine sv (o_as rfl) rfl ?_
        refine l_nil ?_
        refine e_K (hK24 _ _ _ _ ?_)
        refine c_ret ?_
        exact ret1 rfl rfl ⟨by rw [hz3], E⟩

theorem c_weigh_all : ∀ N : Nat, ∀ (w : World) (v : JV) (us : List Value) (left deep : Int), v.sz ≤ N → Reps [] w v.D us → Calls Tryd.prog 21 [.agg us.toArray, .int .i64 left, .int .i64 deep].toArray w (Ret fun u w' => u = .int .i64 (v.weigh left deep) ∧ Mod [] w w')
  | 0, w, v, us, left, deep, h, R => absurd (JV.sz_eq v) (by omega)
  | N + 1, w, v, us, left, deep, h, R => c_weigh_step N (c_weigh_all N) w v us left deep h R
theorem c_weigh (w : World) (v : JV) (us : List Value) (left deep : Int) (R : Reps [] w v.D us) : Calls Tryd.prog 21 [.agg us.toArray, .int .i64 left, .int .i64 deep].toArray w (Ret fun u w' => u = .int .i64 (v.weigh left deep) ∧ Mod [] w w') := c_weigh_all v.sz w v us left deep (Nat.le_refl _) R

theorem c_rises_step (N : Nat) (ih : ∀ (w : World) (v : JV) (us : List Value), v.sz ≤ N → Reps [] w v.D us → Calls Tryd.prog 14 [.agg us.toArray].toArray w (Ret fun u w' => u = .bool v.rises ∧ Mod [] w w')) (w : World) (v : JV) (us : List Value) (hN : v.sz ≤ N + 1) (R : Reps [] w v.D us) : Calls Tryd.prog 14 [.agg us.toArray].toArray w (Ret fun u w' => u = .bool v.rises ∧ Mod [] w w') := by
  refine enter Tryd.func14 rfl rfl rfl (l := [(0, _)]) ⟨rfl, trivial⟩ ?_
  have E := Mod.refl [] w
  obtain ⟨al, cl, am, cm, rfl, Rl, Rm⟩ := JV.cells_ R
  refine c_seq fun K1 hK1 => ?_
  refine c_region ?_
  refine s_box rfl rfl rfl fun g1 w1 N1 => ?_
  have Lg1_E := N1.le E
  replace E := E.then N1.mod
  have Bg1 := N1.blk
  refine sv (o_as rfl) rfl ?_
  refine l_nil ?_
  refine e_K (hK1 _ _ _ _ ?_)
  refine c_seq fun K2 hK2 => ?_
  refine c_seq fun K3 hK3 => ?_
  refine c_region ?_
  refine sv (o_fa0 fd25_5 rfl) rfl ?_
  refine sv (o_ld sc23 rfl (Bg1.cell rfl)) rfl ?_
  refine sv (o_len Tryd.underlying23 rfl) rfl ?_
  refine sv (o_mv rfl) rfl ?_
  refine l_nil ?_
  refine e_K (hK3 _ _ _ _ ?_)
  refine c_block ?_
  refine c_loop (σ := Nat) (fun k => [(1, .pointer (some ⟨g1, 0, none⟩)), (8, .slice am v.map.length cm), (9, .int .i64 v.map.length), (10, .int .i64 (k : Int))]) (fun k w1 => k ≤ v.map.length ∧ (∀ (i : Nat) (a b : List UInt8 × JV), i + 1 < k → v.map[i]? = some a → v.map[i + 1]? = some b → bl a.1 b.1 = true) ∧ (∀ (i : Nat) (p : List UInt8 × JV), i < k → v.map[i]? = some p → p.2.rises = true) ∧ Blk w1 g1 25 [.int .i64 v.kind, .bool v.is, .int .i64 v.num, S v.str, .slice al v.list.length cl, .slice am v.map.length cm] ∧ Mod [] w w1) (fun k => v.map.length - k) (0) ⟨rfl, rfl, rfl, rfl, trivial⟩ (⟨by omega, fun i a b h => by omega, fun i p h => by omega, Bg1, E⟩) ?_
  rintro k w2 ⟨hk, hA, hB, Bg1, E⟩
  refine c_seq fun K4 hK4 => ?_
  refine c_region ?_
  refine sv (o_lss rfl rfl) rfl ?_
  refine l_nil ?_
  refine e_K (hK4 _ _ _ _ ?_)
  refine c_seq fun K5 hK5 => ?_
  refine c_if rfl (fun h11 => ?_) (fun h11 => ?_)
  · skip
    obtain ⟨x, hx_x⟩ : ∃ x, v.map[k]? = some x := ⟨_, List.getElem?_eq_getElem (by omega)⟩
    obtain ⟨a_x, us_x, ha_x, R_x, hcs0_x⟩ := JV.at_m Rm hx_x
    obtain ⟨al_x, cl_x, am_x, cm_x, rfl, Rl_x, Rm_x⟩ := JV.cells_ R_x
    have hcs_x := hcs0_x.mod0 E
    have hcap_x := JV.cap_m Rm
    obtain rfl := ha_x
    refine c_skip ?_
    refine e_K (hK5 _ _ _ _ ?_)
    refine c_seq fun K6 hK6 => ?_
    refine c_block ?_
    refine c_seq fun K7 hK7 => ?_
    refine c_region ?_
    refine sv (o_mv rfl) rfl ?_
    refine sv (o_ix sl23 rfl rfl (by omega)) rfl ?_
    refine sv (o_lda ag62 rfl rfl hcs_x) rfl ?_
    refine s_alloc zv62 rfl fun g2 w3 N2 => ?_
    have Lg2_E := N2.le E
    have Dg1_g2 := N2.ne Bg1
    replace Bg1 := Bg1.mod0 N2.mod
    replace E := E.then N2.mod
    have Bg2 := N2.blk
    refine sv (o_as rfl) rfl ?_
    refine s_sta (vs := [_, _, _, _, _, _, _]) ag62 Bg2 rfl rfl rfl (by simp [Value.oneCell']) (by simp) fun w4 P4 => ?_
    replace Bg1 := Bg1.ne P4.mod (Ne.symm (Ne.symm Dg1_g2))
    replace E := E.own P4.mod Lg2_E
    replace Bg2 : Blk w4 g2 _ [_, _, _, _, _, _, _] := P4.blk
    refine l_nil ?_
    refine e_K (hK7 _ _ _ _ ?_)
    refine c_seq fun K8 hK8 => ?_
    by_cases hs4_0 : (k : Int) > 0
    · skip
      obtain ⟨q, hx_q⟩ : ∃ q, v.map[k - 1]? = some q := ⟨_, List.getElem?_eq_getElem (by omega)⟩
      obtain ⟨a_q, us_q, ha_q, R_q, hcs0_q⟩ := JV.at_m Rm hx_q
      have hcs_q := hcs0_q.mod0 E
      injection ha_q with ha_q
      subst ha_q
      rcases hs4_1 : (!(bl q.1 x.1)) with _ | _
      · skip
        have hAk : ∀ a b : List UInt8 × JV, 0 < k → v.map[k - 1]? = some a → v.map[k]? = some b → bl a.1 b.1 = true := fun a b h ha hb => by
          rw [hx_q] at ha
          rw [hx_x] at hb
          injection ha with ha
          injection hb with hb
          subst ha; subst hb
          simpa using hs4_1
        refine c_draw wide (by kernel_rfl) ?_
        refine tv (fun w_ E_ => (o_mv rfl)) rfl rfl ?_
        refine tv (fun w_ E_ => (o_gtr rfl rfl)) rfl rfl ?_
        refine tv (fun w_ E_ => (o_mv rfl)) rfl rfl ?_
        refine tvg rfl (decide_eq_true hs4_0) (fun w_ E_ => (o_fa0 fd25_5 rfl)) rfl rfl ?_
        refine tvg rfl (decide_eq_true hs4_0) (fun w_ E_ => (o_ld sc23 rfl ((Bg1.mod0 E_).cell rfl))) rfl rfl ?_
        refine tvg rfl (decide_eq_true hs4_0) (fun w_ E_ => (o_mv rfl)) rfl rfl ?_
        refine tvg rfl (decide_eq_true hs4_0) (fun w_ E_ => (o_subE (r := ((k - 1 : Nat) : Int)) rfl rfl (by rw [wrap64_in _ (by omega)]; omega))) rfl rfl ?_
        refine tvg rfl (decide_eq_true hs4_0) (fun w_ E_ => (o_ix sl23 rfl rfl (by omega))) rfl rfl ?_
        refine tvg rfl (decide_eq_true hs4_0) (fun w_ E_ => (o_fad fd62_0 rfl)) rfl rfl ?_
        refine tvg rfl (decide_eq_true hs4_0) (fun w_ E_ => (o_ld sc9 rfl ((hcs_q.mod0 E_) 0 _ rfl))) rfl rfl ?_
        refine tvg rfl (decide_eq_true hs4_0) (fun w_ E_ => (o_fa0 fd62_0 rfl)) rfl rfl ?_
        refine tvg rfl (decide_eq_true hs4_0) (fun w_ E_ => (o_ld sc9 rfl ((Bg2.mod0 E_).cell rfl))) rfl rfl ?_
        refine tvg rfl (decide_eq_true hs4_0) (fun w_ E_ => (o_sge rfl rfl)) rfl rfl ?_
        refine tv (fun w_ E_ => (o_pickT (decide_eq_true hs4_0) rfl rfl)) rfl rfl ?_
        refine tv (fun w_ E_ => (o_mv rfl)) rfl rfl ?_
        refine tvg rfl (hs4_1) (fun w_ E_ => (o_fa0 fd62_1 rfl)) rfl rfl ?_
        refine tvg rfl (hs4_1) (fun w_ E_ => (o_lda (vs := [_, _, _, _, _, _]) ag25 rfl rfl ((Bg2.mod0 E_).cs rfl))) rfl rfl ?_
        refine tcg rfl (hs4_1) (fun w_ E_ => o_call ent14 rfl) (fun w_ E_ => ih _ x.2 _ (by have := JV.sz_in_map (List.mem_of_getElem? hx_x); omega) (R_x.to0 (E.then E_))) rfl rfl ?_
        refine tvg rfl (hs4_1) (fun w_ E_ => (o_not rfl)) rfl rfl ?_
        refine tv (fun w_ E_ => (o_pickF (hs4_1) rfl rfl)) rfl rfl ?_
        refine tw_nil rfl fun w5 E_ => ?_
        replace Bg1 := Bg1.mod0 E_
        replace Bg2 := Bg2.mod0 E_
        replace E := E.then E_
        refine e_K (hK8 _ _ _ _ ?_)
        refine c_cond rfl (fun h34 => ?_) (fun h34 => ?_)
        · skip
          have hz3 : v.rises = false := JV.not_Rise_val hx_x (by simpa using h34)
          refine c_seq fun K9 hK9 => ?_
          refine c_region ?_
          refine sv (o_as rfl) rfl ?_
          refine l_nil ?_
          refine e_K (hK9 _ _ _ _ ?_)
          refine c_ret ?_
          refine e_in (by simp) ?_
          refine e_then (by simp) ?_
          refine e_then (by simp) ?_
          refine e_in (by simp) ?_
          refine e_then (by simp) ?_
          exact ret1 rfl rfl ⟨by rw [hz3], E⟩
        · skip
          have hB2 : ∀ (i : Nat) (p : List UInt8 × JV), i < k + 1 → v.map[i]? = some p → p.2.rises = true := fun i p hi hp => by
            rcases Nat.lt_succ_iff_lt_or_eq.1 hi with h | h
            · exact hB i p h hp
            · subst h; rw [hx_x] at hp; injection hp with hp; subst hp; simpa using h34
          have hA2 : ∀ (i : Nat) (a b : List UInt8 × JV), i + 1 < k + 1 → v.map[i]? = some a → v.map[i + 1]? = some b → bl a.1 b.1 = true := fun i a b hi ha hb => by
            rcases Nat.lt_succ_iff_lt_or_eq.1 hi with h | h
            · exact hA i a b h ha hb
            · exact hAk a b (by omega) (by rw [← h]; exact ha) (by rw [← h]; exact hb)
          refine c_skip ?_
          refine e_in (by simp) ?_
          refine e_K (hK6 _ _ _ _ ?_)
          refine c_region ?_
          refine sv (o_addN rfl rfl (by omega)) rfl ?_
          refine sv (o_mv rfl) rfl ?_
          refine l_nil ?_
          exact e_round (σ := Nat) (s := k) (k + 1) ⟨rfl, rfl, rfl, rfl, trivial⟩ ⟨by omega, hA2, hB2, Bg1, E⟩ (by omega)
      · skip
        refine c_draw wide (by kernel_rfl) ?_
        refine tv (fun w_ E_ => (o_mv rfl)) rfl rfl ?_
        refine tv (fun w_ E_ => (o_gtr rfl rfl)) rfl rfl ?_
        refine tv (fun w_ E_ => (o_mv rfl)) rfl rfl ?_
        refine tvg rfl (decide_eq_true hs4_0) (fun w_ E_ => (o_fa0 fd25_5 rfl)) rfl rfl ?_
        refine tvg rfl (decide_eq_true hs4_0) (fun w_ E_ => (o_ld sc23 rfl ((Bg1.mod0 E_).cell rfl))) rfl rfl ?_
        refine tvg rfl (decide_eq_true hs4_0) (fun w_ E_ => (o_mv rfl)) rfl rfl ?_
        refine tvg rfl (decide_eq_true hs4_0) (fun w_ E_ => (o_subE (r := ((k - 1 : Nat) : Int)) rfl rfl (by rw [wrap64_in _ (by omega)]; omega))) rfl rfl ?_
        refine tvg rfl (decide_eq_true hs4_0) (fun w_ E_ => (o_ix sl23 rfl rfl (by omega))) rfl rfl ?_
        refine tvg rfl (decide_eq_true hs4_0) (fun w_ E_ => (o_fad fd62_0 rfl)) rfl rfl ?_
        refine tvg rfl (decide_eq_true hs4_0) (fun w_ E_ => (o_ld sc9 rfl ((hcs_q.mod0 E_) 0 _ rfl))) rfl rfl ?_
        refine tvg rfl (decide_eq_true hs4_0) (fun w_ E_ => (o_fa0 fd62_0 rfl)) rfl rfl ?_
        refine tvg rfl (decide_eq_true hs4_0) (fun w_ E_ => (o_ld sc9 rfl ((Bg2.mod0 E_).cell rfl))) rfl rfl ?_
        refine tvg rfl (decide_eq_true hs4_0) (fun w_ E_ => (o_sge rfl rfl)) rfl rfl ?_
        refine tv (fun w_ E_ => (o_pickT (decide_eq_true hs4_0) rfl rfl)) rfl rfl ?_
        refine tv (fun w_ E_ => (o_mv rfl)) rfl rfl ?_
        refine tn rfl (fun e_ => absurd ((hs4_1).symm.trans e_) (by decide)) rfl ?_
        refine tn rfl (fun e_ => absurd ((hs4_1).symm.trans e_) (by decide)) rfl ?_
        refine tn rfl (fun e_ => absurd ((hs4_1).symm.trans e_) (by decide)) rfl ?_
        refine tn rfl (fun e_ => absurd ((hs4_1).symm.trans e_) (by decide)) rfl ?_
        refine tv (fun w_ E_ => (o_pickT (hs4_1) rfl rfl)) rfl rfl ?_
        refine tw_nil rfl fun w6 E_ => ?_
        replace Bg1 := Bg1.mod0 E_
        replace Bg2 := Bg2.mod0 E_
        replace E := E.then E_
        refine e_K (hK8 _ _ _ _ ?_)
        refine c_true rfl ?_
        have hz3 : v.rises = false := JV.not_Rise_asc hx_q hx_x (by omega) (by simpa using hs4_1)
        refine c_seq fun K10 hK10 => ?_
        refine c_region ?_
        refine sv (o_as rfl) rfl ?_
        refine l_nil ?_
        refine e_K (hK10 _ _ _ _ ?_)
        refine c_ret ?_
        refine e_in (by simp) ?_
        refine e_then (by simp) ?_
        refine e_then (by simp) ?_
        refine e_in (by simp) ?_
        refine e_then (by simp) ?_
        exact ret1 rfl rfl ⟨by rw [hz3], E⟩
    · skip
      have hAk : ∀ a b : List UInt8 × JV, 0 < k → v.map[k - 1]? = some a → v.map[k]? = some b → bl a.1 b.1 = true := fun a b h => by omega
      refine c_draw wide (by kernel_rfl) ?_
      refine tv (fun w_ E_ => (o_mv rfl)) rfl rfl ?_
      refine tv (fun w_ E_ => (o_gtr rfl rfl)) rfl rfl ?_
      refine tv (fun w_ E_ => (o_mv rfl)) rfl rfl ?_
      refine tn rfl (fun e_ => absurd ((decide_eq_false hs4_0).symm.trans e_) (by decide)) rfl ?_
      refine tn rfl (fun e_ => absurd ((decide_eq_false hs4_0).symm.trans e_) (by decide)) rfl ?_
      refine tn rfl (fun e_ => absurd ((decide_eq_false hs4_0).symm.trans e_) (by decide)) rfl ?_
      refine tn rfl (fun e_ => absurd ((decide_eq_false hs4_0).symm.trans e_) (by decide)) rfl ?_
      refine tn rfl (fun e_ => absurd ((decide_eq_false hs4_0).symm.trans e_) (by decide)) rfl ?_
      refine tn rfl (fun e_ => absurd ((decide_eq_false hs4_0).symm.trans e_) (by decide)) rfl ?_
      refine tn rfl (fun e_ => absurd ((decide_eq_false hs4_0).symm.trans e_) (by decide)) rfl ?_
      refine tn rfl (fun e_ => absurd ((decide_eq_false hs4_0).symm.trans e_) (by decide)) rfl ?_
      refine tn rfl (fun e_ => absurd ((decide_eq_false hs4_0).symm.trans e_) (by decide)) rfl ?_
      refine tn rfl (fun e_ => absurd ((decide_eq_false hs4_0).symm.trans e_) (by decide)) rfl ?_
      refine tv (fun w_ E_ => (o_pickF (decide_eq_false hs4_0) rfl rfl)) rfl rfl ?_
      refine tv (fun w_ E_ => (o_mv rfl)) rfl rfl ?_
      refine tvg rfl (rfl) (fun w_ E_ => (o_fa0 fd62_1 rfl)) rfl rfl ?_
      refine tvg rfl (rfl) (fun w_ E_ => (o_lda (vs := [_, _, _, _, _, _]) ag25 rfl rfl ((Bg2.mod0 E_).cs rfl))) rfl rfl ?_
      refine tcg rfl (rfl) (fun w_ E_ => o_call ent14 rfl) (fun w_ E_ => ih _ x.2 _ (by have := JV.sz_in_map (List.mem_of_getElem? hx_x); omega) (R_x.to0 (E.then E_))) rfl rfl ?_
      refine tvg rfl (rfl) (fun w_ E_ => (o_not rfl)) rfl rfl ?_
      refine tv (fun w_ E_ => (o_pickF (rfl) rfl rfl)) rfl rfl ?_
      refine tw_nil rfl fun w7 E_ => ?_
      replace Bg1 := Bg1.mod0 E_
      replace Bg2 := Bg2.mod0 E_
      replace E := E.then E_
      refine e_K (hK8 _ _ _ _ ?_)
      refine c_cond rfl (fun h34 => ?_) (fun h34 => ?_)
      · skip
        have hz3 : v.rises = false := JV.not_Rise_val hx_x (by simpa using h34)
        refine c_seq fun K11 hK11 => ?_
        refine c_region ?_
        refine sv (o_as rfl) rfl ?_
        refine l_nil ?_
        refine e_K (hK11 _ _ _ _ ?_)
        refine c_ret ?_
        refine e_in (by simp) ?_
        refine e_then (by simp) ?_
        refine e_then (by simp) ?_
        refine e_in (by simp) ?_
        refine e_then (by simp) ?_
        exact ret1 rfl rfl ⟨by rw [hz3], E⟩
      · skip
        have hB2 : ∀ (i : Nat) (p : List UInt8 × JV), i < k + 1 → v.map[i]? = some p → p.2.rises = true := fun i p hi hp => by
          rcases Nat.lt_succ_iff_lt_or_eq.1 hi with h | h
          · exact hB i p h hp
          · subst h; rw [hx_x] at hp; injection hp with hp; subst hp; simpa using h34
        have hA2 : ∀ (i : Nat) (a b : List UInt8 × JV), i + 1 < k + 1 → v.map[i]? = some a → v.map[i + 1]? = some b → bl a.1 b.1 = true := fun i a b hi ha hb => by
          rcases Nat.lt_succ_iff_lt_or_eq.1 hi with h | h
          · exact hA i a b h ha hb
          · exact hAk a b (by omega) (by rw [← h]; exact ha) (by rw [← h]; exact hb)
        refine c_skip ?_
        refine e_in (by simp) ?_
        refine e_K (hK6 _ _ _ _ ?_)
        refine c_region ?_
        refine sv (o_addN rfl rfl (by omega)) rfl ?_
        refine sv (o_mv rfl) rfl ?_
        refine l_nil ?_
        exact e_round (σ := Nat) (s := k) (k + 1) ⟨rfl, rfl, rfl, rfl, trivial⟩ ⟨by omega, hA2, hB2, Bg1, E⟩ (by omega)
  · skip
    refine c_exit ?_
    refine e_then (by simp) ?_
    refine e_then (by simp) ?_
    refine e_hit ?_
    refine e_K (hK2 _ _ _ _ ?_)
    refine c_seq fun K12 hK12 => ?_
    refine c_seq fun K13 hK13 => ?_
    refine c_region ?_
    refine sv (o_fa0 fd25_4 rfl) rfl ?_
    refine sv (o_ld sc22 rfl (Bg1.cell rfl)) rfl ?_
    refine sv (o_len Tryd.underlying22 rfl) rfl ?_
    refine sv (o_mv rfl) rfl ?_
    refine l_nil ?_
    refine e_K (hK13 _ _ _ _ ?_)
    refine c_block ?_
    refine c_loop (σ := Nat) (fun j => [(1, .pointer (some ⟨g1, 0, none⟩)), (37, .slice al v.list.length cl), (38, .int .i64 v.list.length), (39, .int .i64 (j : Int))]) (fun j w1 => j ≤ v.list.length ∧ (∀ (i : Nat) (p : JV), i < j → v.list[i]? = some p → p.rises = true) ∧ Blk w1 g1 25 [.int .i64 v.kind, .bool v.is, .int .i64 v.num, S v.str, .slice al v.list.length cl, .slice am v.map.length cm] ∧ Mod [] w w1) (fun j => v.list.length - j) (0) ⟨rfl, rfl, rfl, rfl, trivial⟩ (⟨by omega, fun i p h => by omega, Bg1, E⟩) ?_
    rintro j w8 ⟨hj, hC, Bg1, E⟩
    refine c_seq fun K14 hK14 => ?_
    refine c_region ?_
    refine sv (o_lss rfl rfl) rfl ?_
    refine l_nil ?_
    refine e_K (hK14 _ _ _ _ ?_)
    refine c_seq fun K15 hK15 => ?_
    refine c_if rfl (fun h40 => ?_) (fun h40 => ?_)
    · skip
      obtain ⟨x, hx_x⟩ : ∃ x, v.list[j]? = some x := ⟨_, List.getElem?_eq_getElem (by omega)⟩
      obtain ⟨a_x, us_x, ha_x, R_x, hcs0_x⟩ := JV.at_l Rl hx_x
      obtain ⟨al_x, cl_x, am_x, cm_x, rfl, Rl_x, Rm_x⟩ := JV.cells_ R_x
      have hcs_x := hcs0_x.mod0 E
      have hcap_x := JV.cap_l Rl
      obtain rfl := ha_x
      refine c_skip ?_
      refine e_K (hK15 _ _ _ _ ?_)
      refine c_seq fun K16 hK16 => ?_
      refine c_block ?_
      refine c_seq fun K17 hK17 => ?_
      refine c_region ?_
      refine sv (o_ix sl22 rfl rfl (by omega)) rfl ?_
      refine sv (o_lda ag25 rfl rfl hcs_x) rfl ?_
      refine s_alloc zv25 rfl fun g3 w9 N3 => ?_
      have Lg3_E := N3.le E
      have Dg1_g3 := N3.ne Bg1
      replace Bg1 := Bg1.mod0 N3.mod
      replace E := E.then N3.mod
      have Bg3 := N3.blk
      refine s_sta (vs := [_, _, _, _, _, _]) ag25 Bg3 rfl rfl rfl (by simp [Value.oneCell']) (by simp) fun w10 P10 => ?_
      replace Bg1 := Bg1.ne P10.mod (Ne.symm (Ne.symm Dg1_g3))
      replace E := E.own P10.mod Lg3_E
      replace Bg3 : Blk w10 g3 _ [_, _, _, _, _, _] := P10.blk
      refine l_nil ?_
      refine e_K (hK17 _ _ _ _ ?_)
      refine c_seq fun K18 hK18 => ?_
      refine c_region ?_
      refine sv (o_lda (vs := [_, _, _, _, _, _]) ag25 rfl rfl (Bg3.cs rfl)) rfl ?_
      refine sc (o_call ent14 rfl) (ih _ x _ (by have := JV.sz_in_list (List.mem_of_getElem? hx_x); omega) (R_x.to0 E)) rfl fun v_ w11 h_ => ?_
      obtain ⟨rfl, E_⟩ := h_
      replace Bg1 := Bg1.mod0 E_
      replace Bg3 := Bg3.mod0 E_
      replace E := E.then E_
      refine sv (o_not rfl) rfl ?_
      refine l_nil ?_
      refine e_K (hK18 _ _ _ _ ?_)
      refine c_cond rfl (fun h45 => ?_) (fun h45 => ?_)
      · skip
        have hz3 : v.rises = false := JV.not_Rise_list hx_x (by simpa using h45)
        refine c_seq fun K19 hK19 => ?_
        refine c_region ?_
        refine sv (o_as rfl) rfl ?_
        refine l_nil ?_
        refine e_K (hK19 _ _ _ _ ?_)
        refine c_ret ?_
        refine e_in (by simp) ?_
        refine e_then (by simp) ?_
        refine e_then (by simp) ?_
        refine e_in (by simp) ?_
        refine e_then (by simp) ?_
        exact ret1 rfl rfl ⟨by rw [hz3], E⟩
      · skip
        have hC2 : ∀ (i : Nat) (p : JV), i < j + 1 → v.list[i]? = some p → p.rises = true := fun i p hi hp => by
          rcases Nat.lt_succ_iff_lt_or_eq.1 hi with h | h
          · exact hC i p h hp
          · subst h; rw [hx_x] at hp; injection hp with hp; subst hp; simpa using h45
        refine c_skip ?_
        refine e_in (by simp) ?_
        refine e_K (hK16 _ _ _ _ ?_)
        refine c_region ?_
        refine sv (o_addN rfl rfl (by omega)) rfl ?_
        refine sv (o_mv rfl) rfl ?_
        refine l_nil ?_
        exact e_round (σ := Nat) (s := j) (j + 1) ⟨rfl, rfl, rfl, rfl, trivial⟩ ⟨by omega, hC2, Bg1, E⟩ (by omega)
    · skip
      refine c_exit ?_
      refine e_then (by simp) ?_
      refine e_then (by simp) ?_
      refine e_hit ?_
      refine e_K (hK12 _ _ _ _ ?_)
      refine c_seq fun K20 hK20 => ?_
      refine c_region ?_
      refine sv (o_as rfl) rfl ?_
      refine l_nil ?_
      refine e_K (hK20 _ _ _ _ ?_)
      refine c_ret ?_
      exact ret1 rfl rfl ⟨by rw [JV.Rise_of (fun i a b ha hb => hA i a b (by have := (List.getElem?_eq_some_iff.1 hb).1; omega) ha hb) (fun i p hp => hB i p (by have := (List.getElem?_eq_some_iff.1 hp).1; omega) hp) (fun i x hx => hC i x (by have := (List.getElem?_eq_some_iff.1 hx).1; omega) hx)], E⟩

theorem c_rises_all : ∀ N : Nat, ∀ (w : World) (v : JV) (us : List Value), v.sz ≤ N → Reps [] w v.D us → Calls Tryd.prog 14 [.agg us.toArray].toArray w (Ret fun u w' => u = .bool v.rises ∧ Mod [] w w')
  | 0, w, v, us, h, R => absurd (JV.sz_eq v) (by omega)
  | N + 1, w, v, us, h, R => c_rises_step N (c_rises_all N) w v us h R
theorem c_rises (w : World) (v : JV) (us : List Value) (R : Reps [] w v.D us) : Calls Tryd.prog 14 [.agg us.toArray].toArray w (Ret fun u w' => u = .bool v.rises ∧ Mod [] w w') := c_rises_all v.sz w v us (Nat.le_refl _) R
end Go.Proofs.YtkhbnhdlelmbnaaDoor.V
