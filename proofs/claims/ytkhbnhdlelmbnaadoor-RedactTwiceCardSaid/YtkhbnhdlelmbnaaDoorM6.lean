/-
  A part of the proof: walks of functions. No condition of its own.
-/
import Derived.Test.YtkhbnhdlelmbnaaDoorM5
set_option linter.unusedVariables false
set_option linter.unusedSimpArgs false
set_option maxRecDepth 10000
namespace Go.Proofs.YtkhbnhdlelmbnaaDoor.V
open Go Go.Proofs
theorem fd25_0 : fdB Tryd.prog 25 0 0 1 = true := by kernel_rfl
theorem sc3 : scB Tryd.prog 3 = true := by kernel_rfl
theorem fd25_1 : fdB Tryd.prog 25 1 1 1 = true := by kernel_rfl
theorem sc4 : scB Tryd.prog 4 = true := by kernel_rfl
theorem fd25_2 : fdB Tryd.prog 25 2 2 1 = true := by kernel_rfl
theorem ent40 : Ent Tryd.prog 40 := Ent.of Tryd.func40 (by kernel_rfl) (by kernel_rfl)
theorem c_same_step (N : Nat) (ih : ∀ (w : World) (v y : JV) (us vs : List Value), v.sz ≤ N → Reps [] w v.D us → Reps [] w y.D vs → Calls Tryd.prog 40 [.agg us.toArray, .agg vs.toArray].toArray w (Ret fun u w' => u = .bool (JV.eqJ v y) ∧ Mod [] w w')) (w : World) (v y : JV) (us vs : List Value) (hN : v.sz ≤ N + 1) (R : Reps [] w v.D us) (R2 : Reps [] w y.D vs) : Calls Tryd.prog 40 [.agg us.toArray, .agg vs.toArray].toArray w (Ret fun u w' => u = .bool (JV.eqJ v y) ∧ Mod [] w w') := by
  refine enter Tryd.func40 rfl rfl rfl (l := [(0, _), (1, _)]) ⟨rfl, rfl, trivial⟩ ?_
  have E := Mod.refl [] w
  obtain ⟨al, cl, am, cm, rfl, Rl, Rm⟩ := JV.cells_ R
  obtain ⟨al2, cl2, am2, cm2, rfl, Rl2, Rm2⟩ := JV.cells_ R2
  refine c_seq fun K1 hK1 => ?_
  refine c_region ?_
  refine s_box rfl rfl rfl fun g1 w1 N1 => ?_
  have Lg1_E := N1.le E
  replace E := E.then N1.mod
  have Bg1 := N1.blk
  refine s_box rfl rfl rfl fun g2 w2 N2 => ?_
  have Lg2_E := N2.le E
  have Dg1_g2 := N2.ne Bg1
  replace Bg1 := Bg1.mod0 N2.mod
  replace E := E.then N2.mod
  have Bg2 := N2.blk
  refine sv (o_as rfl) rfl ?_
  refine l_nil ?_
  refine e_K (hK1 _ _ _ _ ?_)
  refine c_seq fun K2 hK2 => ?_
  refine c_seq fun K3 hK3 => ?_
  by_cases hs1_0 : v.kind ≠ y.kind
  · skip
    have hz3 : JV.eqJ v y = false := JV.eqJ_ne fun e => hs1_0 (by rw [e])
    refine c_region ?_
    refine sv (o_fa0 fd25_0 rfl) rfl ?_
    refine sv (o_ld sc3 rfl (Bg1.cell rfl)) rfl ?_
    refine sv (o_fa0 fd25_0 rfl) rfl ?_
    refine sv (o_ld sc3 rfl (Bg2.cell rfl)) rfl ?_
    refine sv (o_neq rfl rfl) rfl ?_
    refine sv (o_mv rfl) rfl ?_
    refine sn rfl (fun e_ => absurd ((decide_eq_true hs1_0).symm.trans e_) (by decide)) rfl ?_
    refine sn rfl (fun e_ => absurd ((decide_eq_true hs1_0).symm.trans e_) (by decide)) rfl ?_
    refine sn rfl (fun e_ => absurd ((decide_eq_true hs1_0).symm.trans e_) (by decide)) rfl ?_
    refine sn rfl (fun e_ => absurd ((decide_eq_true hs1_0).symm.trans e_) (by decide)) rfl ?_
    refine sn rfl (fun e_ => absurd ((decide_eq_true hs1_0).symm.trans e_) (by decide)) rfl ?_
    refine sv (o_pickT (decide_eq_true hs1_0) rfl rfl) rfl ?_
    refine sv (o_mv rfl) rfl ?_
    refine sn rfl (fun e_ => absurd ((rfl).symm.trans e_) (by decide)) rfl ?_
    refine sn rfl (fun e_ => absurd ((rfl).symm.trans e_) (by decide)) rfl ?_
    refine sn rfl (fun e_ => absurd ((rfl).symm.trans e_) (by decide)) rfl ?_
    refine sn rfl (fun e_ => absurd ((rfl).symm.trans e_) (by decide)) rfl ?_
    refine sn rfl (fun e_ => absurd ((rfl).symm.trans e_) (by decide)) rfl ?_
    refine sv (o_pickT (rfl) rfl rfl) rfl ?_
    refine sv (o_mv rfl) rfl ?_
    refine sn rfl (fun e_ => absurd ((rfl).symm.trans e_) (by decide)) rfl ?_
    refine sn rfl (fun e_ => absurd ((rfl).symm.trans e_) (by decide)) rfl ?_
    refine sn rfl (fun e_ => absurd ((rfl).symm.trans e_) (by decide)) rfl ?_
    refine sn rfl (fun e_ => absurd ((rfl).symm.trans e_) (by decide)) rfl ?_
    refine sn rfl (fun e_ => absurd ((rfl).symm.trans e_) (by decide)) rfl ?_
    refine sv (o_pickT (rfl) rfl rfl) rfl ?_
    refine sv (o_mv rfl) rfl ?_
    refine sn rfl (fun e_ => absurd ((rfl).symm.trans e_) (by decide)) rfl ?_
    refine sn rfl (fun e_ => absurd ((rfl).symm.trans e_) (by decide)) rfl ?_
    refine sn rfl (fun e_ => absurd ((rfl).symm.trans e_) (by decide)) rfl ?_
    refine sn rfl (fun e_ => absurd ((rfl).symm.trans e_) (by decide)) rfl ?_
    refine sn rfl (fun e_ => absurd ((rfl).symm.trans e_) (by decide)) rfl ?_
    refine sn rfl (fun e_ => absurd ((rfl).symm.trans e_) (by decide)) rfl ?_
    refine sn rfl (fun e_ => absurd ((rfl).symm.trans e_) (by decide)) rfl ?_
    refine sv (o_pickT (rfl) rfl rfl) rfl ?_
    refine sv (o_mv rfl) rfl ?_
    refine sn rfl (fun e_ => absurd ((rfl).symm.trans e_) (by decide)) rfl ?_
    refine sn rfl (fun e_ => absurd ((rfl).symm.trans e_) (by decide)) rfl ?_
    refine sn rfl (fun e_ => absurd ((rfl).symm.trans e_) (by decide)) rfl ?_
    refine sn rfl (fun e_ => absurd ((rfl).symm.trans e_) (by decide)) rfl ?_
    refine sn rfl (fun e_ => absurd ((rfl).symm.trans e_) (by decide)) rfl ?_
    refine sn rfl (fun e_ => absurd ((rfl).symm.trans e_) (by decide)) rfl ?_
    refine sn rfl (fun e_ => absurd ((rfl).symm.trans e_) (by decide)) rfl ?_
    refine sv (o_pickT (rfl) rfl rfl) rfl ?_
    refine l_nil ?_
    refine e_K (hK3 _ _ _ _ ?_)
    refine c_true rfl ?_
    refine c_seq fun K4 hK4 => ?_
    refine c_region ?_
    refine sv (o_as rfl) rfl ?_
    refine l_nil ?_
    refine e_K (hK4 _ _ _ _ ?_)
    refine c_ret ?_
    refine e_then (by simp) ?_
    exact ret1 rfl rfl ⟨by rw [hz3], E⟩
  · skip
    rcases hs1_1 : (v.is != y.is) with _ | _
    · skip
      by_cases hs1_2 : v.num ≠ y.num
      · skip
        have hz3 : JV.eqJ v y = false := JV.eqJ_ne fun e => hs1_2 (by rw [e])
        refine c_region ?_
        refine sv (o_fa0 fd25_0 rfl) rfl ?_
        refine sv (o_ld sc3 rfl (Bg1.cell rfl)) rfl ?_
        refine sv (o_fa0 fd25_0 rfl) rfl ?_
        refine sv (o_ld sc3 rfl (Bg2.cell rfl)) rfl ?_
        refine sv (o_neq rfl rfl) rfl ?_
        refine sv (o_mv rfl) rfl ?_
        refine sg rfl (decide_eq_false hs1_0) (o_fa0 fd25_1 rfl) rfl ?_
        refine sg rfl (decide_eq_false hs1_0) (o_ld sc4 rfl (Bg1.cell rfl)) rfl ?_
        refine sg rfl (decide_eq_false hs1_0) (o_fa0 fd25_1 rfl) rfl ?_
        refine sg rfl (decide_eq_false hs1_0) (o_ld sc4 rfl (Bg2.cell rfl)) rfl ?_
        refine sg rfl (decide_eq_false hs1_0) (o_bsne Tryd.underlying4 rfl rfl) rfl ?_
        refine sv (o_pickF (decide_eq_false hs1_0) rfl rfl) rfl ?_
        refine sv (o_mv rfl) rfl ?_
        refine sg rfl (hs1_1) (o_fa0 fd25_2 rfl) rfl ?_
        refine sg rfl (hs1_1) (o_ld sc3 rfl (Bg1.cell rfl)) rfl ?_
        refine sg rfl (hs1_1) (o_fa0 fd25_2 rfl) rfl ?_
        refine sg rfl (hs1_1) (o_ld sc3 rfl (Bg2.cell rfl)) rfl ?_
        refine sg rfl (hs1_1) (o_neq rfl rfl) rfl ?_
        refine sv (o_pickF (hs1_1) rfl rfl) rfl ?_
        refine sv (o_mv rfl) rfl ?_
        refine sn rfl (fun e_ => absurd ((decide_eq_true hs1_2).symm.trans e_) (by decide)) rfl ?_
        refine sn rfl (fun e_ => absurd ((decide_eq_true hs1_2).symm.trans e_) (by decide)) rfl ?_
        refine sn rfl (fun e_ => absurd ((decide_eq_true hs1_2).symm.trans e_) (by decide)) rfl ?_
        refine sn rfl (fun e_ => absurd ((decide_eq_true hs1_2).symm.trans e_) (by decide)) rfl ?_
        refine sn rfl (fun e_ => absurd ((decide_eq_true hs1_2).symm.trans e_) (by decide)) rfl ?_
        refine sv (o_pickT (decide_eq_true hs1_2) rfl rfl) rfl ?_
        refine sv (o_mv rfl) rfl ?_
        refine sn rfl (fun e_ => absurd ((rfl).symm.trans e_) (by decide)) rfl ?_
        refine sn rfl (fun e_ => absurd ((rfl).symm.trans e_) (by decide)) rfl ?_
        refine sn rfl (fun e_ => absurd ((rfl).symm.trans e_) (by decide)) rfl ?_
        refine sn rfl (fun e_ => absurd ((rfl).symm.trans e_) (by decide)) rfl ?_
        refine sn rfl (fun e_ => absurd ((rfl).symm.trans e_) (by decide)) rfl ?_
        refine sn rfl (fun e_ => absurd ((rfl).symm.trans e_) (by decide)) rfl ?_
        refine sn rfl (fun e_ => absurd ((rfl).symm.trans e_) (by decide)) rfl ?_
        refine sv (o_pickT (rfl) rfl rfl) rfl ?_
        refine sv (o_mv rfl) rfl ?_
        refine sn rfl (fun e_ => absurd ((rfl).symm.trans e_) (by decide)) rfl ?_
        refine sn rfl (fun e_ => absurd ((rfl).symm.trans e_) (by decide)) rfl ?_
        refine sn rfl (fun e_ => absurd ((rfl).symm.trans e_) (by decide)) rfl ?_
        refine sn rfl (fun e_ => absurd ((rfl).symm.trans e_) (by decide)) rfl ?_
        refine sn rfl (fun e_ => absurd ((rfl).symm.trans e_) (by decide)) rfl ?_
        refine sn rfl (fun e_ => absurd ((rfl).symm.trans e_) (by decide)) rfl ?_
        refine sn rfl (fun e_ => absurd ((rfl).symm.trans e_) (by decide)) rfl ?_
        refine sv (o_pickT (rfl) rfl rfl) rfl ?_
        refine l_nil ?_
        refine e_K (hK3 _ _ _ _ ?_)
        refine c_true rfl ?_
        refine c_seq fun K5 hK5 => ?_
        refine c_region ?_
        refine sv (o_as rfl) rfl ?_
        refine l_nil ?_
        refine e_K (hK5 _ _ _ _ ?_)
        refine c_ret ?_
        refine e_then (by simp) ?_
        exact ret1 rfl rfl ⟨by rw [hz3], E⟩
      · skip
        by_cases hs1_3 : v.str ≠ y.str
        · skip
          have hz3 : JV.eqJ v y = false := JV.eqJ_ne fun e => hs1_3 (by rw [e])
          refine c_region ?_
          refine sv (o_fa0 fd25_0 rfl) rfl ?_
          refine sv (o_ld sc3 rfl (Bg1.cell rfl)) rfl ?_
          refine sv (o_fa0 fd25_0 rfl) rfl ?_
          refine sv (o_ld sc3 rfl (Bg2.cell rfl)) rfl ?_
          refine sv (o_neq rfl rfl) rfl ?_
          refine sv (o_mv rfl) rfl ?_
          refine sg rfl (decide_eq_false hs1_0) (o_fa0 fd25_1 rfl) rfl ?_
          refine sg rfl (decide_eq_false hs1_0) (o_ld sc4 rfl (Bg1.cell rfl)) rfl ?_
          refine sg rfl (decide_eq_false hs1_0) (o_fa0 fd25_1 rfl) rfl ?_
          refine sg rfl (decide_eq_false hs1_0) (o_ld sc4 rfl (Bg2.cell rfl)) rfl ?_
          refine sg rfl (decide_eq_false hs1_0) (o_bsne Tryd.underlying4 rfl rfl) rfl ?_
          refine sv (o_pickF (decide_eq_false hs1_0) rfl rfl) rfl ?_
          refine sv (o_mv rfl) rfl ?_
          refine sg rfl (hs1_1) (o_fa0 fd25_2 rfl) rfl ?_
          refine sg rfl (hs1_1) (o_ld sc3 rfl (Bg1.cell rfl)) rfl ?_
          refine sg rfl (hs1_1) (o_fa0 fd25_2 rfl) rfl ?_
          refine sg rfl (hs1_1) (o_ld sc3 rfl (Bg2.cell rfl)) rfl ?_
          refine sg rfl (hs1_1) (o_neq rfl rfl) rfl ?_
          refine sv (o_pickF (hs1_1) rfl rfl) rfl ?_
          refine sv (o_mv rfl) rfl ?_
          refine sg rfl (decide_eq_false hs1_2) (o_fa0 fd25_3 rfl) rfl ?_
          refine sg rfl (decide_eq_false hs1_2) (o_ld sc9 rfl (Bg1.cell rfl)) rfl ?_
          refine sg rfl (decide_eq_false hs1_2) (o_fa0 fd25_3 rfl) rfl ?_
          refine sg rfl (decide_eq_false hs1_2) (o_ld sc9 rfl (Bg2.cell rfl)) rfl ?_
          refine sg rfl (decide_eq_false hs1_2) (o_sne rfl rfl) rfl ?_
          refine sv (o_pickF (decide_eq_false hs1_2) rfl rfl) rfl ?_
          refine sv (o_mv rfl) rfl ?_
          refine sn rfl (fun e_ => absurd ((decide_eq_true hs1_3).symm.trans e_) (by decide)) rfl ?_
          refine sn rfl (fun e_ => absurd ((decide_eq_true hs1_3).symm.trans e_) (by decide)) rfl ?_
          refine sn rfl (fun e_ => absurd ((decide_eq_true hs1_3).symm.trans e_) (by decide)) rfl ?_
          refine sn rfl (fun e_ => absurd ((decide_eq_true hs1_3).symm.trans e_) (by decide)) rfl ?_
          refine sn rfl (fun e_ => absurd ((decide_eq_true hs1_3).symm.trans e_) (by decide)) rfl ?_
          refine sn rfl (fun e_ => absurd ((decide_eq_true hs1_3).symm.trans e_) (by decide)) rfl ?_
          refine sn rfl (fun e_ => absurd ((decide_eq_true hs1_3).symm.trans e_) (by decide)) rfl ?_
          refine sv (o_pickT (decide_eq_true hs1_3) rfl rfl) rfl ?_
          refine sv (o_mv rfl) rfl ?_
          refine sn rfl (fun e_ => absurd ((rfl).symm.trans e_) (by decide)) rfl ?_
          refine sn rfl (fun e_ => absurd ((rfl).symm.trans e_) (by decide)) rfl ?_
          refine sn rfl (fun e_ => absurd ((rfl).symm.trans e_) (by decide)) rfl ?_
          refine sn rfl (fun e_ => absurd ((rfl).symm.trans e_) (by decide)) rfl ?_
          refine sn rfl (fun e_ => absurd ((rfl).symm.trans e_) (by decide)) rfl ?_
          refine sn rfl (fun e_ => absurd ((rfl).symm.trans e_) (by decide)) rfl ?_
          refine sn rfl (fun e_ => absurd ((rfl).symm.trans e_) (by decide)) rfl ?_
          refine sv (o_pickT (rfl) rfl rfl) rfl ?_
          refine l_nil ?_
          refine e_K (hK3 _ _ _ _ ?_)
          refine c_true rfl ?_
          refine c_seq fun K6 hK6 => ?_
          refine c_region ?_
          refine sv (o_as rfl) rfl ?_
          refine l_nil ?_
          refine e_K (hK6 _ _ _ _ ?_)
          refine c_ret ?_
          refine e_then (by simp) ?_
          exact ret1 rfl rfl ⟨by rw [hz3], E⟩
        · skip
          by_cases hs1_4 : (v.list.length : Int) ≠ (y.list.length : Int)
          · skip
            have hz3 : JV.eqJ v y = false := JV.eqJ_ne fun e => hs1_4 (by rw [e])
            refine c_region ?_
            refine sv (o_fa0 fd25_0 rfl) rfl ?_
            refine sv (o_ld sc3 rfl (Bg1.cell rfl)) rfl ?_
            refine sv (o_fa0 fd25_0 rfl) rfl ?_
            refine sv (o_ld sc3 rfl (Bg2.cell rfl)) rfl ?_
            refine sv (o_neq rfl rfl) rfl ?_
            refine sv (o_mv rfl) rfl ?_
            refine sg rfl (decide_eq_false hs1_0) (o_fa0 fd25_1 rfl) rfl ?_
            refine sg rfl (decide_eq_false hs1_0) (o_ld sc4 rfl (Bg1.cell rfl)) rfl ?_
            refine sg rfl (decide_eq_false hs1_0) (o_fa0 fd25_1 rfl) rfl ?_
            refine sg rfl (decide_eq_false hs1_0) (o_ld sc4 rfl (Bg2.cell rfl)) rfl ?_
            refine sg rfl (decide_eq_false hs1_0) (o_bsne Tryd.underlying4 rfl rfl) rfl ?_
            refine sv (o_pickF (decide_eq_false hs1_0) rfl rfl) rfl ?_
            refine sv (o_mv rfl) rfl ?_
            refine sg rfl (hs1_1) (o_fa0 fd25_2 rfl) rfl ?_
            refine sg rfl (hs1_1) (o_ld sc3 rfl (Bg1.cell rfl)) rfl ?_
            refine sg rfl (hs1_1) (o_fa0 fd25_2 rfl) rfl ?_
            refine sg rfl (hs1_1) (o_ld sc3 rfl (Bg2.cell rfl)) rfl ?_
            refine sg rfl (hs1_1) (o_neq rfl rfl) rfl ?_
            refine sv (o_pickF (hs1_1) rfl rfl) rfl ?_
            refine sv (o_mv rfl) rfl ?_
            refine sg rfl (decide_eq_false hs1_2) (o_fa0 fd25_3 rfl) rfl ?_
            refine sg rfl (decide_eq_false hs1_2) (o_ld sc9 rfl (Bg1.cell rfl)) rfl ?_
            refine sg rfl (decide_eq_false hs1_2) (o_fa0 fd25_3 rfl) rfl ?_
            refine sg rfl (decide_eq_false hs1_2) (o_ld sc9 rfl (Bg2.cell rfl)) rfl ?_
            refine sg rfl (decide_eq_false hs1_2) (o_sne rfl rfl) rfl ?_
            refine sv (o_pickF (decide_eq_false hs1_2) rfl rfl) rfl ?_
            refine sv (o_mv rfl) rfl ?_
            refine sg rfl (decide_eq_false hs1_3) (o_fa0 fd25_4 rfl) rfl ?_
            refine sg rfl (decide_eq_false hs1_3) (o_ld sc22 rfl (Bg1.cell rfl)) rfl ?_
            refine sg rfl (decide_eq_false hs1_3) (o_len Tryd.underlying22 rfl) rfl ?_
            refine sg rfl (decide_eq_false hs1_3) (o_fa0 fd25_4 rfl) rfl ?_
            refine sg rfl (decide_eq_false hs1_3) (o_ld sc22 rfl (Bg2.cell rfl)) rfl ?_
            refine sg rfl (decide_eq_false hs1_3) (o_len Tryd.underlying22 rfl) rfl ?_
            refine sg rfl (decide_eq_false hs1_3) (o_neq rfl rfl) rfl ?_
            refine sv (o_pickF (decide_eq_false hs1_3) rfl rfl) rfl ?_
            refine sv (o_mv rfl) rfl ?_
            refine sn rfl (fun e_ => absurd ((decide_eq_true hs1_4).symm.trans e_) (by decide)) rfl ?_
            refine sn rfl (fun e_ => absurd ((decide_eq_true hs1_4).symm.trans e_) (by decide)) rfl ?_
            refine sn rfl (fun e_ => absurd ((decide_eq_true hs1_4).symm.trans e_) (by decide)) rfl ?_
            refine sn rfl (fun e_ => absurd ((decide_eq_true hs1_4).symm.trans e_) (by decide)) rfl ?_
            refine sn rfl (fun e_ => absurd ((decide_eq_true hs1_4).symm.trans e_) (by decide)) rfl ?_
            refine sn rfl (fun e_ => absurd ((decide_eq_true hs1_4).symm.trans e_) (by decide)) rfl ?_
            refine sn rfl (fun e_ => absurd ((decide_eq_true hs1_4).symm.trans e_) (by decide)) rfl ?_
            refine sv (o_pickT (decide_eq_true hs1_4) rfl rfl) rfl ?_
            refine l_nil ?_
            refine e_K (hK3 _ _ _ _ ?_)
            refine c_true rfl ?_
            refine c_seq fun K7 hK7 => ?_
            refine c_region ?_
            refine sv (o_as rfl) rfl ?_
            refine l_nil ?_
            refine e_K (hK7 _ _ _ _ ?_)
            refine c_ret ?_
            refine e_then (by simp) ?_
            exact ret1 rfl rfl ⟨by rw [hz3], E⟩
          · skip
            by_cases hs1_5 : (v.map.length : Int) ≠ (y.map.length : Int)
            · skip
              have hz3 : JV.eqJ v y = false := JV.eqJ_ne fun e => hs1_5 (by rw [e])
              refine c_region ?_
              refine sv (o_fa0 fd25_0 rfl) rfl ?_
              refine sv (o_ld sc3 rfl (Bg1.cell rfl)) rfl ?_
              refine sv (o_fa0 fd25_0 rfl) rfl ?_
              refine sv (o_ld sc3 rfl (Bg2.cell rfl)) rfl ?_
              refine sv (o_neq rfl rfl) rfl ?_
              refine sv (o_mv rfl) rfl ?_
              refine sg rfl (decide_eq_false hs1_0) (o_fa0 fd25_1 rfl) rfl ?_
              refine sg rfl (decide_eq_false hs1_0) (o_ld sc4 rfl (Bg1.cell rfl)) rfl ?_
              refine sg rfl (decide_eq_false hs1_0) (o_fa0 fd25_1 rfl) rfl ?_
              refine sg rfl (decide_eq_false hs1_0) (o_ld sc4 rfl (Bg2.cell rfl)) rfl ?_
              refine sg rfl (decide_eq_false hs1_0) (o_bsne Tryd.underlying4 rfl rfl) rfl ?_
              refine sv (o_pickF (decide_eq_false hs1_0) rfl rfl) rfl ?_
              refine sv (o_mv rfl) rfl ?_
              refine sg rfl (hs1_1) (o_fa0 fd25_2 rfl) rfl ?_
              refine sg rfl (hs1_1) (o_ld sc3 rfl (Bg1.cell rfl)) rfl ?_
              refine sg rfl (hs1_1) (o_fa0 fd25_2 rfl) rfl ?_
              refine sg rfl (hs1_1) (o_ld sc3 rfl (Bg2.cell rfl)) rfl ?_
              refine sg rfl (hs1_1) (o_neq rfl rfl) rfl ?_
              refine sv (o_pickF (hs1_1) rfl rfl) rfl ?_
              refine sv (o_mv rfl) rfl ?_
              refine sg rfl (decide_eq_false hs1_2) (o_fa0 fd25_3 rfl) rfl ?_
              refine sg rfl (decide_eq_false hs1_2) (o_ld sc9 rfl (Bg1.cell rfl)) rfl ?_
              refine sg rfl (decide_eq_false hs1_2) (o_fa0 fd25_3 rfl) rfl ?_
              refine sg rfl (decide_eq_false hs1_2) (o_ld sc9 rfl (Bg2.cell rfl)) rfl ?_
              refine sg rfl (decide_eq_false hs1_2) (o_sne rfl rfl) rfl ?_
              refine sv (o_pickF (decide_eq_false hs1_2) rfl rfl) rfl ?_
              refine sv (o_mv rfl) rfl ?_
              refine sg rfl (decide_eq_false hs1_3) (o_fa0 fd25_4 rfl) rfl ?_
              refine sg rfl (decide_eq_false hs1_3) (o_ld sc22 rfl (Bg1.cell rfl)) rfl ?_
              refine sg rfl (decide_eq_false hs1_3) (o_len Tryd.underlying22 rfl) rfl ?_
              refine sg rfl (decide_eq_false hs1_3) (o_fa0 fd25_4 rfl) rfl ?_
              refine sg rfl (decide_eq_false hs1_3) (o_ld sc22 rfl (Bg2.cell rfl)) rfl ?_
              refine sg rfl (decide_eq_false hs1_3) (o_len Tryd.underlying22 rfl) rfl ?_
              refine sg rfl (decide_eq_false hs1_3) (o_neq rfl rfl) rfl ?_
              refine sv (o_pickF (decide_eq_false hs1_3) rfl rfl) rfl ?_
              refine sv (o_mv rfl) rfl ?_
              refine sg rfl (decide_eq_false hs1_4) (o_fa0 fd25_5 rfl) rfl ?_
              refine sg rfl (decide_eq_false hs1_4) (o_ld sc23 rfl (Bg1.cell rfl)) rfl ?_
              refine sg rfl (decide_eq_false hs1_4) (o_len Tryd.underlying23 rfl) rfl ?_
              refine sg rfl (decide_eq_false hs1_4) (o_fa0 fd25_5 rfl) rfl ?_
              refine sg rfl (decide_eq_false hs1_4) (o_ld sc23 rfl (Bg2.cell rfl)) rfl ?_
              refine sg rfl (decide_eq_false hs1_4) (o_len Tryd.underlying23 rfl) rfl ?_
              refine sg rfl (decide_eq_false hs1_4) (o_neq rfl rfl) rfl ?_
              refine sv (o_pickF (decide_eq_false hs1_4) rfl rfl) rfl ?_
              refine l_nil ?_
              refine e_K (hK3 _ _ _ _ ?_)
              refine c_if rfl (fun h50 => ?_) (fun h50 => absurd hs1_5 h50)
              refine c_seq fun K8 hK8 => ?_
              refine c_region ?_
              refine sv (o_as rfl) rfl ?_
              refine l_nil ?_
              refine e_K (hK8 _ _ _ _ ?_)
              refine c_ret ?_
              refine e_then (by simp) ?_
              exact ret1 rfl rfl ⟨by rw [hz3], E⟩
            · skip
              refine c_region ?_
              refine sv (o_fa0 fd25_0 rfl) rfl ?_
              refine sv (o_ld sc3 rfl (Bg1.cell rfl)) rfl ?_
              refine sv (o_fa0 fd25_0 rfl) rfl ?_
              refine sv (o_ld sc3 rfl (Bg2.cell rfl)) rfl ?_
              refine sv (o_neq rfl rfl) rfl ?_
              refine sv (o_mv rfl) rfl ?_
              refine sg rfl (decide_eq_false hs1_0) (o_fa0 fd25_1 rfl) rfl ?_
              refine sg rfl (decide_eq_false hs1_0) (o_ld sc4 rfl (Bg1.cell rfl)) rfl ?_
              refine sg rfl (decide_eq_false hs1_0) (o_fa0 fd25_1 rfl) rfl ?_
              refine sg rfl (decide_eq_false hs1_0) (o_ld sc4 rfl (Bg2.cell rfl)) rfl ?_
              refine sg rfl (decide_eq_false hs1_0) (o_bsne Tryd.underlying4 rfl rfl) rfl ?_
              refine sv (o_pickF (decide_eq_false hs1_0) rfl rfl) rfl ?_
              refine sv (o_mv rfl) rfl ?_
              refine sg rfl (hs1_1) (o_fa0 fd25_2 rfl) rfl ?_
              refine sg rfl (hs1_1) (o_ld sc3 rfl (Bg1.cell rfl)) rfl ?_
              refine sg rfl (hs1_1) (o_fa0 fd25_2 rfl) rfl ?_
              refine sg rfl (hs1_1) (o_ld sc3 rfl (Bg2.cell rfl)) rfl ?_
              refine sg rfl (hs1_1) (o_neq rfl rfl) rfl ?_
              refine sv (o_pickF (hs1_1) rfl rfl) rfl ?_
              refine sv (o_mv rfl) rfl ?_
              refine sg rfl (decide_eq_false hs1_2) (o_fa0 fd25_3 rfl) rfl ?_
              refine sg rfl (decide_eq_false hs1_2) (o_ld sc9 rfl (Bg1.cell rfl)) rfl ?_
              refine sg rfl (decide_eq_false hs1_2) (o_fa0 fd25_3 rfl) rfl ?_
              refine sg rfl (decide_eq_false hs1_2) (o_ld sc9 rfl (Bg2.cell rfl)) rfl ?_
              refine sg rfl (decide_eq_false hs1_2) (o_sne rfl rfl) rfl ?_
              refine sv (o_pickF (decide_eq_false hs1_2) rfl rfl) rfl ?_
              refine sv (o_mv rfl) rfl ?_
              refine sg rfl (decide_eq_false hs1_3) (o_fa0 fd25_4 rfl) rfl ?_
              refine sg rfl (decide_eq_false hs1_3) (o_ld sc22 rfl (Bg1.cell rfl)) rfl ?_
              refine sg rfl (decide_eq_false hs1_3) (o_len Tryd.underlying22 rfl) rfl ?_
              refine sg rfl (decide_eq_false hs1_3) (o_fa0 fd25_4 rfl) rfl ?_
              refine sg rfl (decide_eq_false hs1_3) (o_ld sc22 rfl (Bg2.cell rfl)) rfl ?_
              refine sg rfl (decide_eq_false hs1_3) (o_len Tryd.underlying22 rfl) rfl ?_
              refine sg rfl (decide_eq_false hs1_3) (o_neq rfl rfl) rfl ?_
              refine sv (o_pickF (decide_eq_false hs1_3) rfl rfl) rfl ?_
              refine sv (o_mv rfl) rfl ?_
              refine sg rfl (decide_eq_false hs1_4) (o_fa0 fd25_5 rfl) rfl ?_
              refine sg rfl (decide_eq_false hs1_4) (o_ld sc23 rfl (Bg1.cell rfl)) rfl ?_
              refine sg rfl (decide_eq_false hs1_4) (o_len Tryd.underlying23 rfl) rfl ?_
              refine sg rfl (decide_eq_false hs1_4) (o_fa0 fd25_5 rfl) rfl ?_
              refine sg rfl (decide_eq_false hs1_4) (o_ld sc23 rfl (Bg2.cell rfl)) rfl ?_
              refine sg rfl (decide_eq_false hs1_4) (o_len Tryd.underlying23 rfl) rfl ?_
              refine sg rfl (decide_eq_false hs1_4) (o_neq rfl rfl) rfl ?_
              refine sv (o_pickF (decide_eq_false hs1_4) rfl rfl) rfl ?_
              refine l_nil ?_
              refine e_K (hK3 _ _ _ _ ?_)
              refine c_if rfl (fun h50 => absurd h50 hs1_5) (fun h50 => ?_)
              refine c_skip ?_
              refine e_K (hK2 _ _ _ _ ?_)
              refine c_seq fun K9 hK9 => ?_
              refine c_seq fun K10 hK10 => ?_
              refine c_region ?_
              refine sv (o_fa0 fd25_4 rfl) rfl ?_
              refine sv (o_ld sc22 rfl (Bg1.cell rfl)) rfl ?_
              refine sv (o_len Tryd.underlying22 rfl) rfl ?_
              refine sv (o_mv rfl) rfl ?_
              refine l_nil ?_
              refine e_K (hK10 _ _ _ _ ?_)
              refine c_block ?_
              refine c_loop (σ := Nat) (fun k => [(2, .pointer (some ⟨g1, 0, none⟩)), (3, .pointer (some ⟨g2, 0, none⟩)), (53, .int .i64 v.list.length), (54, .int .i64 (k : Int))]) (fun k w1 => k ≤ v.list.length ∧ (∀ (i : Nat) (a b : JV), i < k → v.list[i]? = some a → y.list[i]? = some b → a = b) ∧ Blk w1 g1 25 [.int .i64 v.kind, .bool v.is, .int .i64 v.num, S v.str, .slice al v.list.length cl, .slice am v.map.length cm] ∧ Blk w1 g2 25 [.int .i64 y.kind, .bool y.is, .int .i64 y.num, S y.str, .slice al2 y.list.length cl2, .slice am2 y.map.length cm2] ∧ Mod [] w w1) (fun k => v.list.length - k) (0) ⟨rfl, rfl, rfl, rfl, trivial⟩ (⟨by omega, fun i a b h => by omega, Bg1, Bg2, E⟩) ?_
              rintro k w3 ⟨hk, hA, Bg1, Bg2, E⟩
              refine c_seq fun K11 hK11 => ?_
              refine c_region ?_
              refine sv (o_lss rfl rfl) rfl ?_
              refine l_nil ?_
              refine e_K (hK11 _ _ _ _ ?_)
              refine c_seq fun K12 hK12 => ?_
              refine c_if rfl (fun h55 => ?_) (fun h55 => ?_)
              · skip
                obtain ⟨x, hx_x⟩ : ∃ x, v.list[k]? = some x := ⟨_, List.getElem?_eq_getElem (by omega)⟩
                obtain ⟨a_x, us_x, ha_x, R_x, hcs0_x⟩ := JV.at_l Rl hx_x
                obtain ⟨al_x, cl_x, am_x, cm_x, rfl, Rl_x, Rm_x⟩ := JV.cells_ R_x
                have hcs_x := hcs0_x.mod0 E
                have hcap_x := JV.cap_l Rl
                obtain rfl := ha_x
                obtain ⟨z, hx_z⟩ : ∃ x, y.list[k]? = some x := ⟨_, List.getElem?_eq_getElem (by omega)⟩
                obtain ⟨a_z, us_z, ha_z, R_z, hcs0_z⟩ := JV.at_l Rl2 hx_z
                obtain ⟨al_z, cl_z, am_z, cm_z, rfl, Rl_z, Rm_z⟩ := JV.cells_ R_z
                have hcs_z := hcs0_z.mod0 E
                have hcap_z := JV.cap_l Rl2
                obtain rfl := ha_z
                refine c_skip ?_
                refine e_K (hK12 _ _ _ _ ?_)
                refine c_seq fun K13 hK13 => ?_
                refine c_block ?_
                refine c_seq fun K14 hK14 => ?_
                refine c_region ?_
                refine sv (o_mv rfl) rfl ?_
                refine sv (o_as rfl) rfl ?_
                refine l_nil ?_
                refine e_K (hK14 _ _ _ _ ?_)
                refine c_seq fun K15 hK15 => ?_
                refine c_draw wide (by kernel_rfl) ?_
                refine tv (fun w_ E_ => (o_fa0 fd25_4 rfl)) rfl rfl ?_
                refine tv (fun w_ E_ => (o_ld sc22 rfl ((Bg1.mod0 E_).cell rfl))) rfl rfl ?_
                refine tv (fun w_ E_ => (o_mv rfl)) rfl rfl ?_
                refine tv (fun w_ E_ => (o_ix sl22 rfl rfl (by omega))) rfl rfl ?_
                refine tv (fun w_ E_ => (o_lda ag25 rfl rfl (hcs_x.mod0 E_))) rfl rfl ?_
                refine tv (fun w_ E_ => (o_fa0 fd25_4 rfl)) rfl rfl ?_
                refine tv (fun w_ E_ => (o_ld sc22 rfl ((Bg2.mod0 E_).cell rfl))) rfl rfl ?_
                refine tv (fun w_ E_ => (o_mv rfl)) rfl rfl ?_
                refine tv (fun w_ E_ => (o_ix sl22 rfl rfl (by omega))) rfl rfl ?_
                refine tv (fun w_ E_ => (o_lda ag25 rfl rfl (hcs_z.mod0 E_))) rfl rfl ?_
                refine tc (fun w_ E_ => o_call ent40 rfl) (fun w_ E_ => ih _ x z _ _ (by have := JV.sz_in_list (List.mem_of_getElem? hx_x); omega) (R_x.to0 (E.then E_)) (R_z.to0 (E.then E_))) rfl rfl ?_
                refine tv (fun w_ E_ => (o_not rfl)) rfl rfl ?_
                refine tw_nil rfl fun w4 E_ => ?_
                replace Bg1 := Bg1.mod0 E_
                replace Bg2 := Bg2.mod0 E_
                replace E := E.then E_
                refine e_K (hK15 _ _ _ _ ?_)
                refine c_cond rfl (fun h68 => ?_) (fun h68 => ?_)
                · skip
                  have hz3 : JV.eqJ v y = false := JV.eqJ_ne fun e => by
                    subst e
                    rw [hx_x] at hx_z
                    injection hx_z with e
                    subst e
                    rw [JV.eqJ_self] at h68
                    cases h68
                  refine c_seq fun K16 hK16 => ?_
                  refine c_region ?_
                  refine sv (o_as rfl) rfl ?_
                  refine l_nil ?_
                  refine e_K (hK16 _ _ _ _ ?_)
                  refine c_ret ?_
                  refine e_in (by simp) ?_
                  refine e_then (by simp) ?_
                  refine e_then (by simp) ?_
                  refine e_in (by simp) ?_
                  refine e_then (by simp) ?_
                  exact ret1 rfl rfl ⟨by rw [hz3], E⟩
                · skip
                  have hA2 : ∀ (i : Nat) (a b : JV), i < k + 1 → v.list[i]? = some a → y.list[i]? = some b → a = b := fun i a b hi ha hb => by
                    rcases Nat.lt_succ_iff_lt_or_eq.1 hi with h | h
                    · exact hA i a b h ha hb
                    · subst h
                      rw [hx_x] at ha
                      rw [hx_z] at hb
                      injection ha with ha
                      injection hb with hb
                      subst ha; subst hb
                      exact JV.eqJ_iff.1 (by simpa using h68)
                  refine c_skip ?_
                  refine e_in (by simp) ?_
                  refine e_K (hK13 _ _ _ _ ?_)
                  refine c_region ?_
                  refine sv (o_addN rfl rfl (by omega)) rfl ?_
                  refine sv (o_mv rfl) rfl ?_
                  refine l_nil ?_
                  exact e_round (σ := Nat) (s := k) (k + 1) ⟨rfl, rfl, rfl, rfl, trivial⟩ ⟨by omega, hA2, Bg1, Bg2, E⟩ (by omega)
              · skip
                refine c_exit ?_
                refine e_then (by simp) ?_
                refine e_then (by simp) ?_
                refine e_hit ?_
                refine e_K (hK9 _ _ _ _ ?_)
                refine c_seq fun K17 hK17 => ?_
                refine c_seq fun K18 hK18 => ?_
                refine c_region ?_
                refine sv (o_fa0 fd25_5 rfl) rfl ?_
                refine sv (o_ld sc23 rfl (Bg1.cell rfl)) rfl ?_
                refine sv (o_len Tryd.underlying23 rfl) rfl ?_
                refine sv (o_mv rfl) rfl ?_
                refine l_nil ?_
                refine e_K (hK18 _ _ _ _ ?_)
                refine c_block ?_
                refine c_loop (σ := Nat) (fun j => [(2, .pointer (some ⟨g1, 0, none⟩)), (3, .pointer (some ⟨g2, 0, none⟩)), (72, .int .i64 v.map.length), (73, .int .i64 (j : Int))]) (fun j w1 => j ≤ v.map.length ∧ (∀ (i : Nat) (a b : List UInt8 × JV), i < j → v.map[i]? = some a → y.map[i]? = some b → a = b) ∧ Blk w1 g1 25 [.int .i64 v.kind, .bool v.is, .int .i64 v.num, S v.str, .slice al v.list.length cl, .slice am v.map.length cm] ∧ Blk w1 g2 25 [.int .i64 y.kind, .bool y.is, .int .i64 y.num, S y.str, .slice al2 y.list.length cl2, .slice am2 y.map.length cm2] ∧ Mod [] w w1) (fun j => v.map.length - j) (0) ⟨rfl, rfl, rfl, rfl, trivial⟩ (⟨by omega, fun i a b h => by omega, Bg1, Bg2, E⟩) ?_
                rintro j w5 ⟨hj, hB, Bg1, Bg2, E⟩
                refine c_seq fun K19 hK19 => ?_
                refine c_region ?_
                refine sv (o_lss rfl rfl) rfl ?_
                refine l_nil ?_
                refine e_K (hK19 _ _ _ _ ?_)
                refine c_seq fun K20 hK20 => ?_
                refine c_if rfl (fun h74 => ?_) (fun h74 => ?_)
                · skip
                  obtain ⟨x, hx_x⟩ : ∃ x, v.map[j]? = some x := ⟨_, List.getElem?_eq_getElem (by omega)⟩
                  obtain ⟨a_x, us_x, ha_x, R_x, hcs0_x⟩ := JV.at_m Rm hx_x
                  obtain ⟨al_x, cl_x, am_x, cm_x, rfl, Rl_x, Rm_x⟩ := JV.cells_ R_x
                  have hcs_x := hcs0_x.mod0 E
                  have hcap_x := JV.cap_m Rm
                  obtain rfl := ha_x
                  obtain ⟨z, hx_z⟩ : ∃ x, y.map[j]? = some x := ⟨_, List.getElem?_eq_getElem (by omega)⟩
                  obtain ⟨a_z, us_z, ha_z, R_z, hcs0_z⟩ := JV.at_m Rm2 hx_z
                  obtain ⟨al_z, cl_z, am_z, cm_z, rfl, Rl_z, Rm_z⟩ := JV.cells_ R_z
                  have hcs_z := hcs0_z.mod0 E
                  have hcap_z := JV.cap_m Rm2
                  obtain rfl := ha_z
                  refine c_skip ?_
                  refine e_K (hK20 _ _ _ _ ?_)
                  refine c_seq fun K21 hK21 => ?_
                  refine c_block ?_
                  refine c_seq fun K22 hK22 => ?_
                  refine c_region ?_
                  refine sv (o_mv rfl) rfl ?_
                  refine sv (o_as rfl) rfl ?_
                  refine l_nil ?_
                  refine e_K (hK22 _ _ _ _ ?_)
                  refine c_seq fun K23 hK23 => ?_
                  by_cases hs12_0 : x.1 ≠ z.1
                  · skip
                    refine c_draw wide (by kernel_rfl) ?_
                    refine tv (fun w_ E_ => (o_fa0 fd25_5 rfl)) rfl rfl ?_
                    refine tv (fun w_ E_ => (o_ld sc23 rfl ((Bg1.mod0 E_).cell rfl))) rfl rfl ?_
                    refine tv (fun w_ E_ => (o_mv rfl)) rfl rfl ?_
                    refine tv (fun w_ E_ => (o_ix sl23 rfl rfl (by omega))) rfl rfl ?_
                    refine tv (fun w_ E_ => (o_fad fd62_0 rfl)) rfl rfl ?_
                    refine tv (fun w_ E_ => (o_ld sc9 rfl ((hcs_x.mod0 E_) 0 _ rfl))) rfl rfl ?_
                    refine tv (fun w_ E_ => (o_fa0 fd25_5 rfl)) rfl rfl ?_
                    refine tv (fun w_ E_ => (o_ld sc23 rfl ((Bg2.mod0 E_).cell rfl))) rfl rfl ?_
                    refine tv (fun w_ E_ => (o_mv rfl)) rfl rfl ?_
                    refine tv (fun w_ E_ => (o_ix sl23 rfl rfl (by omega))) rfl rfl ?_
                    refine tv (fun w_ E_ => (o_fad fd62_0 rfl)) rfl rfl ?_
                    refine tv (fun w_ E_ => (o_ld sc9 rfl ((hcs_z.mod0 E_) 0 _ rfl))) rfl rfl ?_
                    refine tv (fun w_ E_ => (o_sne rfl rfl)) rfl rfl ?_
                    refine tv (fun w_ E_ => (o_mv rfl)) rfl rfl ?_
                    refine tn rfl (fun e_ => absurd ((decide_eq_true hs12_0).symm.trans e_) (by decide)) rfl ?_
                    refine tn rfl (fun e_ => absurd ((decide_eq_true hs12_0).symm.trans e_) (by decide)) rfl ?_
                    refine tn rfl (fun e_ => absurd ((decide_eq_true hs12_0).symm.trans e_) (by decide)) rfl ?_
                    refine tn rfl (fun e_ => absurd ((decide_eq_true hs12_0).symm.trans e_) (by decide)) rfl ?_
                    refine tn rfl (fun e_ => absurd ((decide_eq_true hs12_0).symm.trans e_) (by decide)) rfl ?_
                    refine tn rfl (fun e_ => absurd ((decide_eq_true hs12_0).symm.trans e_) (by decide)) rfl ?_
                    refine tn rfl (fun e_ => absurd ((decide_eq_true hs12_0).symm.trans e_) (by decide)) rfl ?_
                    refine tn rfl (fun e_ => absurd ((decide_eq_true hs12_0).symm.trans e_) (by decide)) rfl ?_
                    refine tn rfl (fun e_ => absurd ((decide_eq_true hs12_0).symm.trans e_) (by decide)) rfl ?_
                    refine tn rfl (fun e_ => absurd ((decide_eq_true hs12_0).symm.trans e_) (by decide)) rfl ?_
                    refine tn rfl (fun e_ => absurd ((decide_eq_true hs12_0).symm.trans e_) (by decide)) rfl ?_
                    refine tn rfl (fun e_ => absurd ((decide_eq_true hs12_0).symm.trans e_) (by decide)) rfl ?_
                    refine tn rfl (fun e_ => absurd ((decide_eq_true hs12_0).symm.trans e_) (by decide)) rfl ?_
                    refine tn rfl (fun e_ => absurd ((decide_eq_true hs12_0).symm.trans e_) (by decide)) rfl ?_
                    refine tv (fun w_ E_ => (o_pickT (decide_eq_true hs12_0) rfl rfl)) rfl rfl ?_
                    refine tw_nil rfl fun w6 E_ => ?_
                    replace Bg1 := Bg1.mod0 E_
                    replace Bg2 := Bg2.mod0 E_
                    replace E := E.then E_
                    refine e_K (hK23 _ _ _ _ ?_)
                    refine c_true rfl ?_
                    have hz3 : JV.eqJ v y = false := JV.eqJ_ne fun e => by
                      subst e
                      rw [hx_x] at hx_z
                      injection hx_z with e
                      subst e
                      exact hs12_0 rfl
                    refine c_seq fun K24 hK24 => ?_
                    refine c_region ?_
                    refine sv (o_as rfl) rfl ?_
                    refine l_nil ?_
                    refine e_K (hK24 _ _ _ _ ?_)
                    refine c_ret ?_
                    refine e_in (by simp) ?_
                    refine e_then (by simp) ?_
                    refine e_then (by simp) ?_
                    refine e_in (by simp) ?_
                    refine e_then (by simp) ?_
                    exact ret1 rfl rfl ⟨by rw [hz3], E⟩
                  · skip
                    refine c_draw wide (by kernel_rfl) ?_
                    refine tv (fun w_ E_ => (o_fa0 fd25_5 rfl)) rfl rfl ?_
                    refine tv (fun w_ E_ => (o_ld sc23 rfl ((Bg1.mod0 E_).cell rfl))) rfl rfl ?_
                    refine tv (fun w_ E_ => (o_mv rfl)) rfl rfl ?_
                    refine tv (fun w_ E_ => (o_ix sl23 rfl rfl (by omega))) rfl rfl ?_
                    refine tv (fun w_ E_ => (o_fad fd62_0 rfl)) rfl rfl ?_
                    refine tv (fun w_ E_ => (o_ld sc9 rfl ((hcs_x.mod0 E_) 0 _ rfl))) rfl rfl ?_
                    refine tv (fun w_ E_ => (o_fa0 fd25_5 rfl)) rfl rfl ?_
                    refine tv (fun w_ E_ => (o_ld sc23 rfl ((Bg2.mod0 E_).cell rfl))) rfl rfl ?_
                    refine tv (fun w_ E_ => (o_mv rfl)) rfl rfl ?_
                    refine tv (fun w_ E_ => (o_ix sl23 rfl rfl (by omega))) rfl rfl ?_
                    refine tv (fun w_ E_ => (o_fad fd62_0 rfl)) rfl rfl ?_
                    refine tv (fun w_ E_ => (o_ld sc9 rfl ((hcs_z.mod0 E_) 0 _ rfl))) rfl rfl ?_
                    refine tv (fun w_ E_ => (o_sne rfl rfl)) rfl rfl ?_
                    refine tv (fun w_ E_ => (o_mv rfl)) rfl rfl ?_
                    refine tvg rfl (decide_eq_false hs12_0) (fun w_ E_ => (o_fa0 fd25_5 rfl)) rfl rfl ?_
                    refine tvg rfl (decide_eq_false hs12_0) (fun w_ E_ => (o_ld sc23 rfl ((Bg1.mod0 E_).cell rfl))) rfl rfl ?_
                    refine tvg rfl (decide_eq_false hs12_0) (fun w_ E_ => (o_mv rfl)) rfl rfl ?_
                    refine tvg rfl (decide_eq_false hs12_0) (fun w_ E_ => (o_ix sl23 rfl rfl (by omega))) rfl rfl ?_
                    refine tvg rfl (decide_eq_false hs12_0) (fun w_ E_ => (o_fad fd62_1 rfl)) rfl rfl ?_
                    refine tvg rfl (decide_eq_false hs12_0) (fun w_ E_ => (o_lda ag25 rfl rfl (hcs_x.mod0 E_).tail_)) rfl rfl ?_
                    refine tvg rfl (decide_eq_false hs12_0) (fun w_ E_ => (o_fa0 fd25_5 rfl)) rfl rfl ?_
                    refine tvg rfl (decide_eq_false hs12_0) (fun w_ E_ => (o_ld sc23 rfl ((Bg2.mod0 E_).cell rfl))) rfl rfl ?_
                    refine tvg rfl (decide_eq_false hs12_0) (fun w_ E_ => (o_mv rfl)) rfl rfl ?_
                    refine tvg rfl (decide_eq_false hs12_0) (fun w_ E_ => (o_ix sl23 rfl rfl (by omega))) rfl rfl ?_
                    refine tvg rfl (decide_eq_false hs12_0) (fun w_ E_ => (o_fad fd62_1 rfl)) rfl rfl ?_
                    refine tvg rfl (decide_eq_false hs12_0) (fun w_ E_ => (o_lda ag25 rfl rfl (hcs_z.mod0 E_).tail_)) rfl rfl ?_
                    refine tcg rfl (decide_eq_false hs12_0) (fun w_ E_ => o_call ent40 rfl) (fun w_ E_ => ih _ x.2 z.2 _ _ (by have := JV.sz_in_map (List.mem_of_getElem? hx_x); omega) (R_x.to0 (E.then E_)) (R_z.to0 (E.then E_))) rfl rfl ?_
                    refine tvg rfl (decide_eq_false hs12_0) (fun w_ E_ => (o_not rfl)) rfl rfl ?_
                    refine tv (fun w_ E_ => (o_pickF (decide_eq_false hs12_0) rfl rfl)) rfl rfl ?_
                    refine tw_nil rfl fun w7 E_ => ?_
                    replace Bg1 := Bg1.mod0 E_
                    replace Bg2 := Bg2.mod0 E_
                    replace E := E.then E_
                    refine e_K (hK23 _ _ _ _ ?_)
                    refine c_cond rfl (fun h104 => ?_) (fun h104 => ?_)
                    · skip
                      have hz3 : JV.eqJ v y = false := JV.eqJ_ne fun e => by
                        subst e
                        rw [hx_x] at hx_z
                        injection hx_z with e
                        subst e
                        rw [JV.eqJ_self] at h104
                        cases h104
                      refine c_seq fun K25 hK25 => ?_
                      refine c_region ?_
                      refine sv (o_as rfl) rfl ?_
                      refine l_nil ?_
                      refine e_K (hK25 _ _ _ _ ?_)
                      refine c_ret ?_
                      refine e_in (by simp) ?_
                      refine e_then (by simp) ?_
                      refine e_then (by simp) ?_
                      refine e_in (by simp) ?_
                      refine e_then (by simp) ?_
                      exact ret1 rfl rfl ⟨by rw [hz3], E⟩
                    · skip
                      have hB2 : ∀ (i : Nat) (a b : List UInt8 × JV), i < j + 1 → v.map[i]? = some a → y.map[i]? = some b → a = b := fun i a b hi ha hb => by
                        rcases Nat.lt_succ_iff_lt_or_eq.1 hi with h | h
                        · exact hB i a b h ha hb
                        · subst h
                          rw [hx_x] at ha
                          rw [hx_z] at hb
                          injection ha with ha
                          injection hb with hb
                          subst ha; subst hb
                          exact Prod.ext (Classical.byContradiction hs12_0) (JV.eqJ_iff.1 (by simpa using h104))
                      refine c_skip ?_
                      refine e_in (by simp) ?_
                      refine e_K (hK21 _ _ _ _ ?_)
                      refine c_region ?_
                      refine sv (o_addN rfl rfl (by omega)) rfl ?_
                      refine sv (o_mv rfl) rfl ?_
                      refine l_nil ?_
                      exact e_round (σ := Nat) (s := j) (j + 1) ⟨rfl, rfl, rfl, rfl, trivial⟩ ⟨by omega, hB2, Bg1, Bg2, E⟩ (by omega)
                · skip
                  refine c_exit ?_
                  refine e_then (by simp) ?_
                  refine e_then (by simp) ?_
                  refine e_hit ?_
                  refine e_K (hK17 _ _ _ _ ?_)
                  refine c_seq fun K26 hK26 => ?_
                  refine c_region ?_
                  refine sv (o_as rfl) rfl ?_
                  refine l_nil ?_
                  refine e_K (hK26 _ _ _ _ ?_)
                  refine c_ret ?_
                  exact ret1 rfl rfl ⟨by rw [JV.eqJ_iff.2 (JV.ext_ (Classical.byContradiction hs1_0) (by simpa using hs1_1) (Classical.byContradiction hs1_2) (Classical.byContradiction hs1_3) (JV.list_ext_ (by omega) fun i a b hi ha hb => hA i a b (by omega) ha hb) (JV.list_ext_ (by omega) fun i a b hi ha hb => hB i a b (by omega) ha hb))], E⟩
    · skip
      have hz3 : JV.eqJ v y = false := JV.eqJ_ne fun e => (by subst e; simp at hs1_1)
      refine c_region ?_
      refine sv (o_fa0 fd25_0 rfl) rfl ?_
      refine sv (o_ld sc3 rfl (Bg1.cell rfl)) rfl ?_
      refine sv (o_fa0 fd25_0 rfl) rfl ?_
      refine sv (o_ld sc3 rfl (Bg2.cell rfl)) rfl ?_
      refine sv (o_neq rfl rfl) rfl ?_
      refine sv (o_mv rfl) rfl ?_
      refine sg rfl (decide_eq_false hs1_0) (o_fa0 fd25_1 rfl) rfl ?_
      refine sg rfl (decide_eq_false hs1_0) (o_ld sc4 rfl (Bg1.cell rfl)) rfl ?_
      refine sg rfl (decide_eq_false hs1_0) (o_fa0 fd25_1 rfl) rfl ?_
      refine sg rfl (decide_eq_false hs1_0) (o_ld sc4 rfl (Bg2.cell rfl)) rfl ?_
      refine sg rfl (decide_eq_false hs1_0) (o_bsne Tryd.underlying4 rfl rfl) rfl ?_
      refine sv (o_pickF (decide_eq_false hs1_0) rfl rfl) rfl ?_
      refine sv (o_mv rfl) rfl ?_
      refine sn rfl (fun e_ => absurd ((hs1_1).symm.trans e_) (by decide)) rfl ?_
      refine sn rfl (fun e_ => absurd ((hs1_1).symm.trans e_) (by decide)) rfl ?_
      refine sn rfl (fun e_ => absurd ((hs1_1).symm.trans e_) (by decide)) rfl ?_
      refine sn rfl (fun e_ => absurd ((hs1_1).symm.trans e_) (by decide)) rfl ?_
      refine sn rfl (fun e_ => absurd ((hs1_1).symm.trans e_) (by decide)) rfl ?_
      refine sv (o_pickT (hs1_1) rfl rfl) rfl ?_
      refine sv (o_mv rfl) rfl ?_
      refine sn rfl (fun e_ => absurd ((rfl).symm.trans e_) (by decide)) rfl ?_
      refine sn rfl (fun e_ => absurd ((rfl).symm.trans e_) (by decide)) rfl ?_
      refine sn rfl (fun e_ => absurd ((rfl).symm.trans e_) (by decide)) rfl ?_
      refine sn rfl (fun e_ => absurd ((rfl).symm.trans e_) (by decide)) rfl ?_
      refine sn rfl (fun e_ => absurd ((rfl).symm.trans e_) (by decide)) rfl ?_
      refine sv (o_pickT (rfl) rfl rfl) rfl ?_
      refine sv (o_mv rfl) rfl ?_
      refine sn rfl (fun e_ => absurd ((rfl).symm.trans e_) (by decide)) rfl ?_
      refine sn rfl (fun e_ => absurd ((rfl).symm.trans e_) (by decide)) rfl ?_
      refine sn rfl (fun e_ => absurd ((rfl).symm.trans e_) (by decide)) rfl ?_
      refine sn rfl (fun e_ => absurd ((rfl).symm.trans e_) (by decide)) rfl ?_
      refine sn rfl (fun e_ => absurd ((rfl).symm.trans e_) (by decide)) rfl ?_
      refine sn rfl (fun e_ => absurd ((rfl).symm.trans e_) (by decide)) rfl ?_
      refine sn rfl (fun e_ => absurd ((rfl).symm.trans e_) (by decide)) rfl ?_
      refine sv (o_pickT (rfl) rfl rfl) rfl ?_
      refine sv (o_mv rfl) rfl ?_
      refine sn rfl (fun e_ => absurd ((rfl).symm.trans e_) (by decide)) rfl ?_
      refine sn rfl (fun e_ => absurd ((rfl).symm.trans e_) (by decide)) rfl ?_
      refine sn rfl (fun e_ => absurd ((rfl).symm.trans e_) (by decide)) rfl ?_
      refine sn rfl (fun e_ => absurd ((rfl).symm.trans e_) (by decide)) rfl ?_
      refine sn rfl (fun e_ => absurd ((rfl).symm.trans e_) (by decide)) rfl ?_
      refine sn rfl (fun e_ => absurd ((rfl).symm.trans e_) (by decide)) rfl ?_
      refine sn rfl (fun e_ => absurd ((rfl).symm.trans e_) (by decide)) rfl ?_
      refine sv (o_pickT (rfl) rfl rfl) rfl ?_
      refine l_nil ?_
      refine e_K (hK3 _ _ _ _ ?_)
      refine c_true rfl ?_
      refine c_seq fun K27 hK27 => ?_
      refine c_region ?_
      refine sv (o_as rfl) rfl ?_
      refine l_nil ?_
      refine e_K (hK27 _ _ _ _ ?_)
      refine c_ret ?_
      refine e_then (by simp) ?_
      exact ret1 rfl rfl ⟨by rw [hz3], E⟩

theorem c_same_all : ∀ N : Nat, ∀ (w : World) (v y : JV) (us vs : List Value), v.sz ≤ N → Reps [] w v.D us → Reps [] w y.D vs → Calls Tryd.prog 40 [.agg us.toArray, .agg vs.toArray].toArray w (Ret fun u w' => u = .bool (JV.eqJ v y) ∧ Mod [] w w')
  | 0, w, v, y, us, vs, h, R, R2 => absurd (JV.sz_eq v) (by omega)
  | N + 1, w, v, y, us, vs, h, R, R2 => c_same_step N (c_same_all N) w v y us vs h R R2
theorem c_same (w : World) (v y : JV) (us vs : List Value) (R : Reps [] w v.D us) (R2 : Reps [] w y.D vs) : Calls Tryd.prog 40 [.agg us.toArray, .agg vs.toArray].toArray w (Ret fun u w' => u = .bool (JV.eqJ v y) ∧ Mod [] w w') := c_same_all v.sz w v y us vs (Nat.le_refl _) R R2
end Go.Proofs.YtkhbnhdlelmbnaaDoor.V
