/-
  A part of the proof: walks of functions. No condition of its own.
-/
import Derived.Test.YtkhbnhdlelmbnaaDoorM9
import Derived.Test.YtkhbnhdlelmbnaaDoorM7
set_option linter.unusedVariables false
set_option linter.unusedSimpArgs false
set_option maxRecDepth 10000
namespace Go.Proofs.YtkhbnhdlelmbnaaDoor.V
open Go Go.Proofs
theorem ent73 : Ent Tryd.prog 73 := Ent.of Tryd.func73 (by kernel_rfl) (by kernel_rfl)
theorem pl66 : plB Tryd.prog 66 [(0, 1)] = true := by kernel_rfl
theorem zv66 : zvB Tryd.prog 66 ([.int .i64 0]) := by unfold zvB; kernel_rfl
theorem fd47_0 : fdB Tryd.prog 47 0 0 1 = true := by kernel_rfl
theorem sc45 : scB Tryd.prog 45 = true := by kernel_rfl
theorem ent43 : Ent Tryd.prog 43 := Ent.of Tryd.func43 (by kernel_rfl) (by kernel_rfl)
theorem ent75 : Ent Tryd.prog 75 := Ent.of Tryd.func75 (by kernel_rfl) (by kernel_rfl)
theorem ent44 : Ent Tryd.prog 44 := Ent.of Tryd.func44 (by kernel_rfl) (by kernel_rfl)
theorem c_plain (w : World) (v : JV) (us : List Value) (R : Reps [] w v.D us) : Calls Tryd.prog 42 [.agg us.toArray].toArray w (Ret fun u w' => u = .bool v.plain ∧ Mod [] w w') := by
  refine enter Tryd.func42 rfl rfl rfl (l := [(0, _)]) ⟨rfl, trivial⟩ ?_
  have E := Mod.refl [] w
  obtain ⟨al, cl, am, cm, rfl, Rl, Rm⟩ := JV.cells_ R
  refine c_seq fun K1 hK1 => ?_
  refine c_region ?_
  refine s_box rfl rfl rfl fun g1 w1 N1 => ?_
  have Lg1_E := N1.le E
  replace E := E.then N1.mod
  have Bg1 := N1.blk
  refine sv (o_as rfl) rfl ?_
  refine l_nil ?_
  refine e_K (hK1 _ _ _ _ ?_)
  refine c_seq fun K2 hK2 => ?_
  refine c_region ?_
  refine sv (o_fa0 fd25_0 rfl) rfl ?_
  refine sv (o_ld sc3 rfl (Bg1.cell rfl)) rfl ?_
  refine sv (o_as rfl) rfl ?_
  refine l_nil ?_
  refine e_K (hK2 _ _ _ _ ?_)
  refine c_seq fun K3 hK3 => ?_
  by_cases hge : v.kind ≥ 0
  · skip
    by_cases hle : v.kind ≤ 5
    · skip
      by_cases hk1 : v.kind = 1
      · skip
        by_cases hnum : v.num = 0
        · skip
          by_cases hstr : v.str = []
          · skip
            by_cases hlist : (v.list.length : Int) = 0
            · skip
              by_cases hmap : (v.map.length : Int) = 0
              · skip
                refine c_region ?_
                refine sv (o_mv rfl) rfl ?_
                refine sv (o_geq rfl rfl) rfl ?_
                refine sv (o_mv rfl) rfl ?_
                refine sg rfl (decide_eq_true hge) (o_mv rfl) rfl ?_
                refine sg rfl (decide_eq_true hge) (o_leq rfl rfl) rfl ?_
                refine sv (o_pickT (decide_eq_true hge) rfl rfl) rfl ?_
                refine sv (o_mv rfl) rfl ?_
                refine sg rfl (decide_eq_true hle) (o_mv rfl) rfl ?_
                refine sg rfl (decide_eq_true hle) (o_eql rfl rfl) rfl ?_
                refine sg rfl (decide_eq_true hle) (o_mv rfl) rfl ?_
                refine sn rfl (fun e_ => absurd ((decide_eq_true hk1).symm.trans e_) (by decide)) rfl ?_
                refine sn rfl (fun e_ => absurd ((decide_eq_true hk1).symm.trans e_) (by decide)) rfl ?_
                refine sn rfl (fun e_ => absurd ((decide_eq_true hk1).symm.trans e_) (by decide)) rfl ?_
                refine sg rfl (decide_eq_true hle) (o_pickT (decide_eq_true hk1) rfl rfl) rfl ?_
                refine sv (o_pickT (decide_eq_true hle) rfl rfl) rfl ?_
                refine sv (o_mv rfl) rfl ?_
                refine sg rfl (rfl) (o_mv rfl) rfl ?_
                refine sg rfl (rfl) (o_eql rfl rfl) rfl ?_
                refine sg rfl (rfl) (o_mv rfl) rfl ?_
                refine sg rfl (decide_eq_false (by omega)) (o_fa0 fd25_2 rfl) rfl ?_
                refine sg rfl (decide_eq_false (by omega)) (o_ld sc3 rfl (Bg1.cell rfl)) rfl ?_
                refine sg rfl (decide_eq_false (by omega)) (o_eql rfl rfl) rfl ?_
                refine sg rfl (rfl) (o_pickF (decide_eq_false (by omega)) rfl rfl) rfl ?_
                refine sv (o_pickT (rfl) rfl rfl) rfl ?_
                refine sv (o_mv rfl) rfl ?_
                refine sg rfl (decide_eq_true hnum) (o_mv rfl) rfl ?_
                refine sg rfl (decide_eq_true hnum) (o_eql rfl rfl) rfl ?_
                refine sg rfl (decide_eq_true hnum) (o_mv rfl) rfl ?_
                refine sg rfl (decide_eq_false (by omega)) (o_fa0 fd25_3 rfl) rfl ?_
                refine sg rfl (decide_eq_false (by omega)) (o_ld sc9 rfl (Bg1.cell rfl)) rfl ?_
                refine sg rfl (decide_eq_false (by omega)) (o_seq rfl rfl) rfl ?_
                refine sg rfl (decide_eq_true hnum) (o_pickF (decide_eq_false (by omega)) rfl rfl) rfl ?_
                refine sv (o_pickT (decide_eq_true hnum) rfl rfl) rfl ?_
                refine sv (o_mv rfl) rfl ?_
                refine sg rfl (decide_eq_true hstr) (o_mv rfl) rfl ?_
                refine sg rfl (decide_eq_true hstr) (o_eql rfl rfl) rfl ?_
                refine sg rfl (decide_eq_true hstr) (o_mv rfl) rfl ?_
                refine sg rfl (decide_eq_false (by omega)) (o_fa0 fd25_4 rfl) rfl ?_
                refine sg rfl (decide_eq_false (by omega)) (o_ld sc22 rfl (Bg1.cell rfl)) rfl ?_
                refine sg rfl (decide_eq_false (by omega)) (o_len Tryd.underlying22 rfl) rfl ?_
                refine sg rfl (decide_eq_false (by omega)) (o_eql rfl rfl) rfl ?_
                refine sg rfl (decide_eq_true hstr) (o_pickF (decide_eq_false (by omega)) rfl rfl) rfl ?_
                refine sv (o_pickT (decide_eq_true hstr) rfl rfl) rfl ?_
                refine sv (o_mv rfl) rfl ?_
                refine sg rfl (decide_eq_true hlist) (o_mv rfl) rfl ?_
                refine sg rfl (decide_eq_true hlist) (o_eql rfl rfl) rfl ?_
                refine sg rfl (decide_eq_true hlist) (o_mv rfl) rfl ?_
                refine sg rfl (decide_eq_false (by omega)) (o_fa0 fd25_5 rfl) rfl ?_
                refine sg rfl (decide_eq_false (by omega)) (o_ld sc23 rfl (Bg1.cell rfl)) rfl ?_
                refine sg rfl (decide_eq_false (by omega)) (o_len Tryd.underlying23 rfl) rfl ?_
                refine sg rfl (decide_eq_false (by omega)) (o_eql rfl rfl) rfl ?_
                refine sg rfl (decide_eq_true hlist) (o_pickF (decide_eq_false (by omega)) rfl rfl) rfl ?_
                refine sv (o_pickT (decide_eq_true hlist) rfl rfl) rfl ?_
                refine sv (o_as rfl) rfl ?_
                refine l_nil ?_
                refine e_K (hK3 _ _ _ _ ?_)
                refine c_ret ?_
                exact ret1 rfl rfl ⟨congrArg Value.bool (by simp only [JV.plain]; clear E R Rl Rm Bg1; simp_all <;> omega), E⟩
              · skip
                refine c_region ?_
                refine sv (o_mv rfl) rfl ?_
                refine sv (o_geq rfl rfl) rfl ?_
                refine sv (o_mv rfl) rfl ?_
                refine sg rfl (decide_eq_true hge) (o_mv rfl) rfl ?_
                refine sg rfl (decide_eq_true hge) (o_leq rfl rfl) rfl ?_
                refine sv (o_pickT (decide_eq_true hge) rfl rfl) rfl ?_
                refine sv (o_mv rfl) rfl ?_
                refine sg rfl (decide_eq_true hle) (o_mv rfl) rfl ?_
                refine sg rfl (decide_eq_true hle) (o_eql rfl rfl) rfl ?_
                refine sg rfl (decide_eq_true hle) (o_mv rfl) rfl ?_
                refine sn rfl (fun e_ => absurd ((decide_eq_true hk1).symm.trans e_) (by decide)) rfl ?_
                refine sn rfl (fun e_ => absurd ((decide_eq_true hk1).symm.trans e_) (by decide)) rfl ?_
                refine sn rfl (fun e_ => absurd ((decide_eq_true hk1).symm.trans e_) (by decide)) rfl ?_
                refine sg rfl (decide_eq_true hle) (o_pickT (decide_eq_true hk1) rfl rfl) rfl ?_
                refine sv (o_pickT (decide_eq_true hle) rfl rfl) rfl ?_
                refine sv (o_mv rfl) rfl ?_
                refine sg rfl (rfl) (o_mv rfl) rfl ?_
                refine sg rfl (rfl) (o_eql rfl rfl) rfl ?_
                refine sg rfl (rfl) (o_mv rfl) rfl ?_
                refine sg rfl (decide_eq_false (by omega)) (o_fa0 fd25_2 rfl) rfl ?_
                refine sg rfl (decide_eq_false (by omega)) (o_ld sc3 rfl (Bg1.cell rfl)) rfl ?_
                refine sg rfl (decide_eq_false (by omega)) (o_eql rfl rfl) rfl ?_
                refine sg rfl (rfl) (o_pickF (decide_eq_false (by omega)) rfl rfl) rfl ?_
                refine sv (o_pickT (rfl) rfl rfl) rfl ?_
                refine sv (o_mv rfl) rfl ?_
                refine sg rfl (decide_eq_true hnum) (o_mv rfl) rfl ?_
                refine sg rfl (decide_eq_true hnum) (o_eql rfl rfl) rfl ?_
                refine sg rfl (decide_eq_true hnum) (o_mv rfl) rfl ?_
                refine sg rfl (decide_eq_false (by omega)) (o_fa0 fd25_3 rfl) rfl ?_
                refine sg rfl (decide_eq_false (by omega)) (o_ld sc9 rfl (Bg1.cell rfl)) rfl ?_
                refine sg rfl (decide_eq_false (by omega)) (o_seq rfl rfl) rfl ?_
                refine sg rfl (decide_eq_true hnum) (o_pickF (decide_eq_false (by omega)) rfl rfl) rfl ?_
                refine sv (o_pickT (decide_eq_true hnum) rfl rfl) rfl ?_
                refine sv (o_mv rfl) rfl ?_
                refine sg rfl (decide_eq_true hstr) (o_mv rfl) rfl ?_
                refine sg rfl (decide_eq_true hstr) (o_eql rfl rfl) rfl ?_
                refine sg rfl (decide_eq_true hstr) (o_mv rfl) rfl ?_
                refine sg rfl (decide_eq_false (by omega)) (o_fa0 fd25_4 rfl) rfl ?_
                refine sg rfl (decide_eq_false (by omega)) (o_ld sc22 rfl (Bg1.cell rfl)) rfl ?_
                refine sg rfl (decide_eq_false (by omega)) (o_len Tryd.underlying22 rfl) rfl ?_
                refine sg rfl (decide_eq_false (by omega)) (o_eql rfl rfl) rfl ?_
                refine sg rfl (decide_eq_true hstr) (o_pickF (decide_eq_false (by omega)) rfl rfl) rfl ?_
                refine sv (o_pickT (decide_eq_true hstr) rfl rfl) rfl ?_
                refine sv (o_mv rfl) rfl ?_
                refine sg rfl (decide_eq_true hlist) (o_mv rfl) rfl ?_
                refine sg rfl (decide_eq_true hlist) (o_eql rfl rfl) rfl ?_
                refine sg rfl (decide_eq_true hlist) (o_mv rfl) rfl ?_
                refine sg rfl (decide_eq_false (by omega)) (o_fa0 fd25_5 rfl) rfl ?_
                refine sg rfl (decide_eq_false (by omega)) (o_ld sc23 rfl (Bg1.cell rfl)) rfl ?_
                refine sg rfl (decide_eq_false (by omega)) (o_len Tryd.underlying23 rfl) rfl ?_
                refine sg rfl (decide_eq_false (by omega)) (o_eql rfl rfl) rfl ?_
                refine sg rfl (decide_eq_true hlist) (o_pickF (decide_eq_false (by omega)) rfl rfl) rfl ?_
                refine sv (o_pickT (decide_eq_true hlist) rfl rfl) rfl ?_
                refine sv (o_as rfl) rfl ?_
                refine l_nil ?_
                refine e_K (hK3 _ _ _ _ ?_)
                refine c_ret ?_
                exact ret1 rfl rfl ⟨congrArg Value.bool (by simp only [JV.plain]; clear E R Rl Rm Bg1; simp_all <;> omega), E⟩
            · skip
              refine c_region ?_
              refine sv (o_mv rfl) rfl ?_
              refine sv (o_geq rfl rfl) rfl ?_
              refine sv (o_mv rfl) rfl ?_
              refine sg rfl (decide_eq_true hge) (o_mv rfl) rfl ?_
              refine sg rfl (decide_eq_true hge) (o_leq rfl rfl) rfl ?_
              refine sv (o_pickT (decide_eq_true hge) rfl rfl) rfl ?_
              refine sv (o_mv rfl) rfl ?_
              refine sg rfl (decide_eq_true hle) (o_mv rfl) rfl ?_
              refine sg rfl (decide_eq_true hle) (o_eql rfl rfl) rfl ?_
              refine sg rfl (decide_eq_true hle) (o_mv rfl) rfl ?_
              refine sn rfl (fun e_ => absurd ((decide_eq_true hk1).symm.trans e_) (by decide)) rfl ?_
              refine sn rfl (fun e_ => absurd ((decide_eq_true hk1).symm.trans e_) (by decide)) rfl ?_
              refine sn rfl (fun e_ => absurd ((decide_eq_true hk1).symm.trans e_) (by decide)) rfl ?_
              refine sg rfl (decide_eq_true hle) (o_pickT (decide_eq_true hk1) rfl rfl) rfl ?_
              refine sv (o_pickT (decide_eq_true hle) rfl rfl) rfl ?_
              refine sv (o_mv rfl) rfl ?_
              refine sg rfl (rfl) (o_mv rfl) rfl ?_
              refine sg rfl (rfl) (o_eql rfl rfl) rfl ?_
              refine sg rfl (rfl) (o_mv rfl) rfl ?_
              refine sg rfl (decide_eq_false (by omega)) (o_fa0 fd25_2 rfl) rfl ?_
              refine sg rfl (decide_eq_false (by omega)) (o_ld sc3 rfl (Bg1.cell rfl)) rfl ?_
              refine sg rfl (decide_eq_false (by omega)) (o_eql rfl rfl) rfl ?_
              refine sg rfl (rfl) (o_pickF (decide_eq_false (by omega)) rfl rfl) rfl ?_
              refine sv (o_pickT (rfl) rfl rfl) rfl ?_
              refine sv (o_mv rfl) rfl ?_
              refine sg rfl (decide_eq_true hnum) (o_mv rfl) rfl ?_
              refine sg rfl (decide_eq_true hnum) (o_eql rfl rfl) rfl ?_
              refine sg rfl (decide_eq_true hnum) (o_mv rfl) rfl ?_
              refine sg rfl (decide_eq_false (by omega)) (o_fa0 fd25_3 rfl) rfl ?_
              refine sg rfl (decide_eq_false (by omega)) (o_ld sc9 rfl (Bg1.cell rfl)) rfl ?_
              refine sg rfl (decide_eq_false (by omega)) (o_seq rfl rfl) rfl ?_
              refine sg rfl (decide_eq_true hnum) (o_pickF (decide_eq_false (by omega)) rfl rfl) rfl ?_
              refine sv (o_pickT (decide_eq_true hnum) rfl rfl) rfl ?_
              refine sv (o_mv rfl) rfl ?_
              refine sg rfl (decide_eq_true hstr) (o_mv rfl) rfl ?_
              refine sg rfl (decide_eq_true hstr) (o_eql rfl rfl) rfl ?_
              refine sg rfl (decide_eq_true hstr) (o_mv rfl) rfl ?_
              refine sg rfl (decide_eq_false (by omega)) (o_fa0 fd25_4 rfl) rfl ?_
              refine sg rfl (decide_eq_false (by omega)) (o_ld sc22 rfl (Bg1.cell rfl)) rfl ?_
              refine sg rfl (decide_eq_false (by omega)) (o_len Tryd.underlying22 rfl) rfl ?_
              refine sg rfl (decide_eq_false (by omega)) (o_eql rfl rfl) rfl ?_
              refine sg rfl (decide_eq_true hstr) (o_pickF (decide_eq_false (by omega)) rfl rfl) rfl ?_
              refine sv (o_pickT (decide_eq_true hstr) rfl rfl) rfl ?_
              refine sv (o_mv rfl) rfl ?_
              refine sn rfl (fun e_ => absurd ((decide_eq_false hlist).symm.trans e_) (by decide)) rfl ?_
              refine sn rfl (fun e_ => absurd ((decide_eq_false hlist).symm.trans e_) (by decide)) rfl ?_
              refine sn rfl (fun e_ => absurd ((decide_eq_false hlist).symm.trans e_) (by decide)) rfl ?_
              refine snu rfl rfl rfl ?_
              refine snu rfl rfl rfl ?_
              refine snu rfl rfl rfl ?_
              refine snu rfl rfl rfl ?_
              refine sn rfl (fun e_ => absurd ((decide_eq_false hlist).symm.trans e_) (by decide)) rfl ?_
              refine sv (o_pickF (decide_eq_false hlist) rfl rfl) rfl ?_
              refine sv (o_as rfl) rfl ?_
              refine l_nil ?_
              refine e_K (hK3 _ _ _ _ ?_)
              refine c_ret ?_
              exact ret1 rfl rfl ⟨congrArg Value.bool (by simp only [JV.plain]; clear E R Rl Rm Bg1; simp_all <;> omega), E⟩
          · skip
            refine c_region ?_
            refine sv (o_mv rfl) rfl ?_
            refine sv (o_geq rfl rfl) rfl ?_
            refine sv (o_mv rfl) rfl ?_
            refine sg rfl (decide_eq_true hge) (o_mv rfl) rfl ?_
            refine sg rfl (decide_eq_true hge) (o_leq rfl rfl) rfl ?_
            refine sv (o_pickT (decide_eq_true hge) rfl rfl) rfl ?_
            refine sv (o_mv rfl) rfl ?_
            refine sg rfl (decide_eq_true hle) (o_mv rfl) rfl ?_
            refine sg rfl (decide_eq_true hle) (o_eql rfl rfl) rfl ?_
            refine sg rfl (decide_eq_true hle) (o_mv rfl) rfl ?_
            refine sn rfl (fun e_ => absurd ((decide_eq_true hk1).symm.trans e_) (by decide)) rfl ?_
            refine sn rfl (fun e_ => absurd ((decide_eq_true hk1).symm.trans e_) (by decide)) rfl ?_
            refine sn rfl (fun e_ => absurd ((decide_eq_true hk1).symm.trans e_) (by decide)) rfl ?_
            refine sg rfl (decide_eq_true hle) (o_pickT (decide_eq_true hk1) rfl rfl) rfl ?_
            refine sv (o_pickT (decide_eq_true hle) rfl rfl) rfl ?_
            refine sv (o_mv rfl) rfl ?_
            refine sg rfl (rfl) (o_mv rfl) rfl ?_
            refine sg rfl (rfl) (o_eql rfl rfl) rfl ?_
            refine sg rfl (rfl) (o_mv rfl) rfl ?_
            refine sg rfl (decide_eq_false (by omega)) (o_fa0 fd25_2 rfl) rfl ?_
            refine sg rfl (decide_eq_false (by omega)) (o_ld sc3 rfl (Bg1.cell rfl)) rfl ?_
            refine sg rfl (decide_eq_false (by omega)) (o_eql rfl rfl) rfl ?_
            refine sg rfl (rfl) (o_pickF (decide_eq_false (by omega)) rfl rfl) rfl ?_
            refine sv (o_pickT (rfl) rfl rfl) rfl ?_
            refine sv (o_mv rfl) rfl ?_
            refine sg rfl (decide_eq_true hnum) (o_mv rfl) rfl ?_
            refine sg rfl (decide_eq_true hnum) (o_eql rfl rfl) rfl ?_
            refine sg rfl (decide_eq_true hnum) (o_mv rfl) rfl ?_
            refine sg rfl (decide_eq_false (by omega)) (o_fa0 fd25_3 rfl) rfl ?_
            refine sg rfl (decide_eq_false (by omega)) (o_ld sc9 rfl (Bg1.cell rfl)) rfl ?_
            refine sg rfl (decide_eq_false (by omega)) (o_seq rfl rfl) rfl ?_
            refine sg rfl (decide_eq_true hnum) (o_pickF (decide_eq_false (by omega)) rfl rfl) rfl ?_
            refine sv (o_pickT (decide_eq_true hnum) rfl rfl) rfl ?_
            refine sv (o_mv rfl) rfl ?_
            refine sn rfl (fun e_ => absurd ((decide_eq_false hstr).symm.trans e_) (by decide)) rfl ?_
            refine sn rfl (fun e_ => absurd ((decide_eq_false hstr).symm.trans e_) (by decide)) rfl ?_
            refine sn rfl (fun e_ => absurd ((decide_eq_false hstr).symm.trans e_) (by decide)) rfl ?_
            refine snu rfl rfl rfl ?_
            refine snu rfl rfl rfl ?_
            refine snu rfl rfl rfl ?_
            refine snu rfl rfl rfl ?_
            refine sn rfl (fun e_ => absurd ((decide_eq_false hstr).symm.trans e_) (by decide)) rfl ?_
            refine sv (o_pickF (decide_eq_false hstr) rfl rfl) rfl ?_
            refine sv (o_mv rfl) rfl ?_
            refine sn rfl (fun e_ => absurd ((rfl).symm.trans e_) (by decide)) rfl ?_
            refine sn rfl (fun e_ => absurd ((rfl).symm.trans e_) (by decide)) rfl ?_
            refine sn rfl (fun e_ => absurd ((rfl).symm.trans e_) (by decide)) rfl ?_
            refine snu rfl rfl rfl ?_
            refine snu rfl rfl rfl ?_
            refine snu rfl rfl rfl ?_
            refine snu rfl rfl rfl ?_
            refine sn rfl (fun e_ => absurd ((rfl).symm.trans e_) (by decide)) rfl ?_
            refine sv (o_pickF (rfl) rfl rfl) rfl ?_
            refine sv (o_as rfl) rfl ?_
            refine l_nil ?_
            refine e_K (hK3 _ _ _ _ ?_)
            refine c_ret ?_
            exact ret1 rfl rfl ⟨congrArg Value.bool (by simp only [JV.plain]; clear E R Rl Rm Bg1; simp_all <;> omega), E⟩
        · skip
          refine c_region ?_
          refine sv (o_mv rfl) rfl ?_
          refine sv (o_geq rfl rfl) rfl ?_
          refine sv (o_mv rfl) rfl ?_
          refine sg rfl (decide_eq_true hge) (o_mv rfl) rfl ?_
          refine sg rfl (decide_eq_true hge) (o_leq rfl rfl) rfl ?_
          refine sv (o_pickT (decide_eq_true hge) rfl rfl) rfl ?_
          refine sv (o_mv rfl) rfl ?_
          refine sg rfl (decide_eq_true hle) (o_mv rfl) rfl ?_
          refine sg rfl (decide_eq_true hle) (o_eql rfl rfl) rfl ?_
          refine sg rfl (decide_eq_true hle) (o_mv rfl) rfl ?_
          refine sn rfl (fun e_ => absurd ((decide_eq_true hk1).symm.trans e_) (by decide)) rfl ?_
          refine sn rfl (fun e_ => absurd ((decide_eq_true hk1).symm.trans e_) (by decide)) rfl ?_
          refine sn rfl (fun e_ => absurd ((decide_eq_true hk1).symm.trans e_) (by decide)) rfl ?_
          refine sg rfl (decide_eq_true hle) (o_pickT (decide_eq_true hk1) rfl rfl) rfl ?_
          refine sv (o_pickT (decide_eq_true hle) rfl rfl) rfl ?_
          refine sv (o_mv rfl) rfl ?_
          refine sg rfl (rfl) (o_mv rfl) rfl ?_
          refine sg rfl (rfl) (o_eql rfl rfl) rfl ?_
          refine sg rfl (rfl) (o_mv rfl) rfl ?_
          refine sg rfl (decide_eq_false (by omega)) (o_fa0 fd25_2 rfl) rfl ?_
          refine sg rfl (decide_eq_false (by omega)) (o_ld sc3 rfl (Bg1.cell rfl)) rfl ?_
          refine sg rfl (decide_eq_false (by omega)) (o_eql rfl rfl) rfl ?_
          refine sg rfl (rfl) (o_pickF (decide_eq_false (by omega)) rfl rfl) rfl ?_
          refine sv (o_pickT (rfl) rfl rfl) rfl ?_
          refine sv (o_mv rfl) rfl ?_
          refine sn rfl (fun e_ => absurd ((decide_eq_false hnum).symm.trans e_) (by decide)) rfl ?_
          refine sn rfl (fun e_ => absurd ((decide_eq_false hnum).symm.trans e_) (by decide)) rfl ?_
          refine sn rfl (fun e_ => absurd ((decide_eq_false hnum).symm.trans e_) (by decide)) rfl ?_
          refine snu rfl rfl rfl ?_
          refine snu rfl rfl rfl ?_
          refine snu rfl rfl rfl ?_
          refine sn rfl (fun e_ => absurd ((decide_eq_false hnum).symm.trans e_) (by decide)) rfl ?_
          refine sv (o_pickF (decide_eq_false hnum) rfl rfl) rfl ?_
          refine sv (o_mv rfl) rfl ?_
          refine sn rfl (fun e_ => absurd ((rfl).symm.trans e_) (by decide)) rfl ?_
          refine sn rfl (fun e_ => absurd ((rfl).symm.trans e_) (by decide)) rfl ?_
          refine sn rfl (fun e_ => absurd ((rfl).symm.trans e_) (by decide)) rfl ?_
          refine snu rfl rfl rfl ?_
          refine snu rfl rfl rfl ?_
          refine snu rfl rfl rfl ?_
          refine snu rfl rfl rfl ?_
          refine sn rfl (fun e_ => absurd ((rfl).symm.trans e_) (by decide)) rfl ?_
          refine sv (o_pickF (rfl) rfl rfl) rfl ?_
          refine sv (o_mv rfl) rfl ?_
          refine sn rfl (fun e_ => absurd ((rfl).symm.trans e_) (by decide)) rfl ?_
          refine sn rfl (fun e_ => absurd ((rfl).symm.trans e_) (by decide)) rfl ?_
          refine sn rfl (fun e_ => absurd ((rfl).symm.trans e_) (by decide)) rfl ?_
          refine snu rfl rfl rfl ?_
          refine snu rfl rfl rfl ?_
          refine snu rfl rfl rfl ?_
          refine snu rfl rfl rfl ?_
          refine sn rfl (fun e_ => absurd ((rfl).symm.trans e_) (by decide)) rfl ?_
          refine sv (o_pickF (rfl) rfl rfl) rfl ?_
          refine sv (o_as rfl) rfl ?_
          refine l_nil ?_
          refine e_K (hK3 _ _ _ _ ?_)
          refine c_ret ?_
          exact ret1 rfl rfl ⟨congrArg Value.bool (by simp only [JV.plain]; clear E R Rl Rm Bg1; simp_all <;> omega), E⟩
      · skip
        by_cases his : (!v.is) = true
        · skip
          by_cases hk2 : v.kind = 2
          · skip
            by_cases hstr : v.str = []
            · skip
              by_cases hlist : (v.list.length : Int) = 0
              · skip
                by_cases hmap : (v.map.length : Int) = 0
                · skip
                  refine c_region ?_
                  refine sv (o_mv rfl) rfl ?_
                  refine sv (o_geq rfl rfl) rfl ?_
                  refine sv (o_mv rfl) rfl ?_
                  refine sg rfl (decide_eq_true hge) (o_mv rfl) rfl ?_
                  refine sg rfl (decide_eq_true hge) (o_leq rfl rfl) rfl ?_
                  refine sv (o_pickT (decide_eq_true hge) rfl rfl) rfl ?_
                  refine sv (o_mv rfl) rfl ?_
                  refine sg rfl (decide_eq_true hle) (o_mv rfl) rfl ?_
                  refine sg rfl (decide_eq_true hle) (o_eql rfl rfl) rfl ?_
                  refine sg rfl (decide_eq_true hle) (o_mv rfl) rfl ?_
                  refine sg rfl (decide_eq_false hk1) (o_fa0 fd25_1 rfl) rfl ?_
                  refine sg rfl (decide_eq_false hk1) (o_ld sc4 rfl (Bg1.cell rfl)) rfl ?_
                  refine sg rfl (decide_eq_false hk1) (o_not rfl) rfl ?_
                  refine sg rfl (decide_eq_true hle) (o_pickF (decide_eq_false hk1) rfl rfl) rfl ?_
                  refine sv (o_pickT (decide_eq_true hle) rfl rfl) rfl ?_
                  refine sv (o_mv rfl) rfl ?_
                  refine sg rfl (his) (o_mv rfl) rfl ?_
                  refine sg rfl (his) (o_eql rfl rfl) rfl ?_
                  refine sg rfl (his) (o_mv rfl) rfl ?_
                  refine sn rfl (fun e_ => absurd ((decide_eq_true hk2).symm.trans e_) (by decide)) rfl ?_
                  refine sn rfl (fun e_ => absurd ((decide_eq_true hk2).symm.trans e_) (by decide)) rfl ?_
                  refine sn rfl (fun e_ => absurd ((decide_eq_true hk2).symm.trans e_) (by decide)) rfl ?_
                  refine sg rfl (his) (o_pickT (decide_eq_true hk2) rfl rfl) rfl ?_
                  refine sv (o_pickT (his) rfl rfl) rfl ?_
                  refine sv (o_mv rfl) rfl ?_
                  refine sg rfl (rfl) (o_mv rfl) rfl ?_
                  refine sg rfl (rfl) (o_eql rfl rfl) rfl ?_
                  refine sg rfl (rfl) (o_mv rfl) rfl ?_
                  refine sg rfl (decide_eq_false (by omega)) (o_fa0 fd25_3 rfl) rfl ?_
                  refine sg rfl (decide_eq_false (by omega)) (o_ld sc9 rfl (Bg1.cell rfl)) rfl ?_
                  refine sg rfl (decide_eq_false (by omega)) (o_seq rfl rfl) rfl ?_
                  refine sg rfl (rfl) (o_pickF (decide_eq_false (by omega)) rfl rfl) rfl ?_
                  refine sv (o_pickT (rfl) rfl rfl) rfl ?_
                  refine sv (o_mv rfl) rfl ?_
                  refine sg rfl (decide_eq_true hstr) (o_mv rfl) rfl ?_
                  refine sg rfl (decide_eq_true hstr) (o_eql rfl rfl) rfl ?_
                  refine sg rfl (decide_eq_true hstr) (o_mv rfl) rfl ?_
                  refine sg rfl (decide_eq_false (by omega)) (o_fa0 fd25_4 rfl) rfl ?_
                  refine sg rfl (decide_eq_false (by omega)) (o_ld sc22 rfl (Bg1.cell rfl)) rfl ?_
                  refine sg rfl (decide_eq_false (by omega)) (o_len Tryd.underlying22 rfl) rfl ?_
                  refine sg rfl (decide_eq_false (by omega)) (o_eql rfl rfl) rfl ?_
                  refine sg rfl (decide_eq_true hstr) (o_pickF (decide_eq_false (by omega)) rfl rfl) rfl ?_
                  refine sv (o_pickT (decide_eq_true hstr) rfl rfl) rfl ?_
                  refine sv (o_mv rfl) rfl ?_
                  refine sg rfl (decide_eq_true hlist) (o_mv rfl) rfl ?_
                  refine sg rfl (decide_eq_true hlist) (o_eql rfl rfl) rfl ?_
                  refine sg rfl (decide_eq_true hlist) (o_mv rfl) rfl ?_
                  refine sg rfl (decide_eq_false (by omega)) (o_fa0 fd25_5 rfl) rfl ?_
                  refine sg rfl (decide_eq_false (by omega)) (o_ld sc23 rfl (Bg1.cell rfl)) rfl ?_
                  refine sg rfl (decide_eq_false (by omega)) (o_len Tryd.underlying23 rfl) rfl ?_
                  refine sg rfl (decide_eq_false (by omega)) (o_eql rfl rfl) rfl ?_
                  refine sg rfl (decide_eq_true hlist) (o_pickF (decide_eq_false (by omega)) rfl rfl) rfl ?_
                  refine sv (o_pickT (decide_eq_true hlist) rfl rfl) rfl ?_
                  refine sv (o_as rfl) rfl ?_
                  refine l_nil ?_
                  refine e_K (hK3 _ _ _ _ ?_)
                  refine c_ret ?_
                  exact ret1 rfl rfl ⟨congrArg Value.bool (by simp only [JV.plain]; clear E R Rl Rm Bg1; simp_all <;> omega), E⟩
                · skip
                  refine c_region ?_
                  refine sv (o_mv rfl) rfl ?_
                  refine sv (o_geq rfl rfl) rfl ?_
                  refine sv (o_mv rfl) rfl ?_
                  refine sg rfl (decide_eq_true hge) (o_mv rfl) rfl ?_
                  refine sg rfl (decide_eq_true hge) (o_leq rfl rfl) rfl ?_
                  refine sv (o_pickT (decide_eq_true hge) rfl rfl) rfl ?_
                  refine sv (o_mv rfl) rfl ?_
                  refine sg rfl (decide_eq_true hle) (o_mv rfl) rfl ?_
                  refine sg rfl (decide_eq_true hle) (o_eql rfl rfl) rfl ?_
                  refine sg rfl (decide_eq_true hle) (o_mv rfl) rfl ?_
                  refine sg rfl (decide_eq_false hk1) (o_fa0 fd25_1 rfl) rfl ?_
                  refine sg rfl (decide_eq_false hk1) (o_ld sc4 rfl (Bg1.cell rfl)) rfl ?_
                  refine sg rfl (decide_eq_false hk1) (o_not rfl) rfl ?_
                  refine sg rfl (decide_eq_true hle) (o_pickF (decide_eq_false hk1) rfl rfl) rfl ?_
                  refine sv (o_pickT (decide_eq_true hle) rfl rfl) rfl ?_
                  refine sv (o_mv rfl) rfl ?_
                  refine sg rfl (his) (o_mv rfl) rfl ?_
                  refine sg rfl (his) (o_eql rfl rfl) rfl ?_
                  refine sg rfl (his) (o_mv rfl) rfl ?_
                  refine sn rfl (fun e_ => absurd ((decide_eq_true hk2).symm.trans e_) (by decide)) rfl ?_
                  refine sn rfl (fun e_ => absurd ((decide_eq_true hk2).symm.trans e_) (by decide)) rfl ?_
                  refine sn rfl (fun e_ => absurd ((decide_eq_true hk2).symm.trans e_) (by decide)) rfl ?_
                  refine sg rfl (his) (o_pickT (decide_eq_true hk2) rfl rfl) rfl ?_
                  refine sv (o_pickT (his) rfl rfl) rfl ?_
                  refine sv (o_mv rfl) rfl ?_
                  refine sg rfl (rfl) (o_mv rfl) rfl ?_
                  refine sg rfl (rfl) (o_eql rfl rfl) rfl ?_
                  refine sg rfl (rfl) (o_mv rfl) rfl ?_
                  refine sg rfl (decide_eq_false (by omega)) (o_fa0 fd25_3 rfl) rfl ?_
                  refine sg rfl (decide_eq_false (by omega)) (o_ld sc9 rfl (Bg1.cell rfl)) rfl ?_
                  refine sg rfl (decide_eq_false (by omega)) (o_seq rfl rfl) rfl ?_
                  refine sg rfl (rfl) (o_pickF (decide_eq_false (by omega)) rfl rfl) rfl ?_
                  refine sv (o_pickT (rfl) rfl rfl) rfl ?_
                  refine sv (o_mv rfl) rfl ?_
                  refine sg rfl (decide_eq_true hstr) (o_mv rfl) rfl ?_
                  refine sg rfl (decide_eq_true hstr) (o_eql rfl rfl) rfl ?_
                  refine sg rfl (decide_eq_true hstr) (o_mv rfl) rfl ?_
                  refine sg rfl (decide_eq_false (by omega)) (o_fa0 fd25_4 rfl) rfl ?_
                  refine sg rfl (decide_eq_false (by omega)) (o_ld sc22 rfl (Bg1.cell rfl)) rfl ?_
                  refine sg rfl (decide_eq_false (by omega)) (o_len Tryd.underlying22 rfl) rfl ?_
                  refine sg rfl (decide_eq_false (by omega)) (o_eql rfl rfl) rfl ?_
                  refine sg rfl (decide_eq_true hstr) (o_pickF (decide_eq_false (by omega)) rfl rfl) rfl ?_
                  refine sv (o_pickT (decide_eq_true hstr) rfl rfl) rfl ?_
                  refine sv (o_mv rfl) rfl ?_
                  refine sg rfl (decide_eq_true hlist) (o_mv rfl) rfl ?_
                  refine sg rfl (decide_eq_true hlist) (o_eql rfl rfl) rfl ?_
                  refine sg rfl (decide_eq_true hlist) (o_mv rfl) rfl ?_
                  refine sg rfl (decide_eq_false (by omega)) (o_fa0 fd25_5 rfl) rfl ?_
                  refine sg rfl (decide_eq_false (by omega)) (o_ld sc23 rfl (Bg1.cell rfl)) rfl ?_
                  refine sg rfl (decide_eq_false (by omega)) (o_len Tryd.underlying23 rfl) rfl ?_
                  refine sg rfl (decide_eq_false (by omega)) (o_eql rfl rfl) rfl ?_
                  refine sg rfl (decide_eq_true hlist) (o_pickF (decide_eq_false (by omega)) rfl rfl) rfl ?_
                  refine sv (o_pickT (decide_eq_true hlist) rfl rfl) rfl ?_
                  refine sv (o_as rfl) rfl ?_
                  refine l_nil ?_
                  refine e_K (hK3 _ _ _ _ ?_)
                  refine c_ret ?_
                  exact ret1 rfl rfl ⟨congrArg Value.bool (by simp only [JV.plain]; clear E R Rl Rm Bg1; simp_all <;> omega), E⟩
              · skip
                refine c_region ?_
                refine sv (o_mv rfl) rfl ?_
                refine sv (o_geq rfl rfl) rfl ?_
                refine sv (o_mv rfl) rfl ?_
                refine sg rfl (decide_eq_true hge) (o_mv rfl) rfl ?_
                refine sg rfl (decide_eq_true hge) (o_leq rfl rfl) rfl ?_
                refine sv (o_pickT (decide_eq_true hge) rfl rfl) rfl ?_
                refine sv (o_mv rfl) rfl ?_
                refine sg rfl (decide_eq_true hle) (o_mv rfl) rfl ?_
                refine sg rfl (decide_eq_true hle) (o_eql rfl rfl) rfl ?_
                refine sg rfl (decide_eq_true hle) (o_mv rfl) rfl ?_
                refine sg rfl (decide_eq_false hk1) (o_fa0 fd25_1 rfl) rfl ?_
                refine sg rfl (decide_eq_false hk1) (o_ld sc4 rfl (Bg1.cell rfl)) rfl ?_
                refine sg rfl (decide_eq_false hk1) (o_not rfl) rfl ?_
                refine sg rfl (decide_eq_true hle) (o_pickF (decide_eq_false hk1) rfl rfl) rfl ?_
                refine sv (o_pickT (decide_eq_true hle) rfl rfl) rfl ?_
                refine sv (o_mv rfl) rfl ?_
                refine sg rfl (his) (o_mv rfl) rfl ?_
                refine sg rfl (his) (o_eql rfl rfl) rfl ?_
                refine sg rfl (his) (o_mv rfl) rfl ?_
                refine sn rfl (fun e_ => absurd ((decide_eq_true hk2).symm.trans e_) (by decide)) rfl ?_
                refine sn rfl (fun e_ => absurd ((decide_eq_true hk2).symm.trans e_) (by decide)) rfl ?_
                refine sn rfl (fun e_ => absurd ((decide_eq_true hk2).symm.trans e_) (by decide)) rfl ?_
                refine sg rfl (his) (o_pickT (decide_eq_true hk2) rfl rfl) rfl ?_
                refine sv (o_pickT (his) rfl rfl) rfl ?_
                refine sv (o_mv rfl) rfl ?_
                refine sg rfl (rfl) (o_mv rfl) rfl ?_
                refine sg rfl (rfl) (o_eql rfl rfl) rfl ?_
                refine sg rfl (rfl) (o_mv rfl) rfl ?_
                refine sg rfl (decide_eq_false (by omega)) (o_fa0 fd25_3 rfl) rfl ?_
                refine sg rfl (decide_eq_false (by omega)) (o_ld sc9 rfl (Bg1.cell rfl)) rfl ?_
                refine sg rfl (decide_eq_false (by omega)) (o_seq rfl rfl) rfl ?_
                refine sg rfl (rfl) (o_pickF (decide_eq_false (by omega)) rfl rfl) rfl ?_
                refine sv (o_pickT (rfl) rfl rfl) rfl ?_
                refine sv (o_mv rfl) rfl ?_
                refine sg rfl (decide_eq_true hstr) (o_mv rfl) rfl ?_
                refine sg rfl (decide_eq_true hstr) (o_eql rfl rfl) rfl ?_
                refine sg rfl (decide_eq_true hstr) (o_mv rfl) rfl ?_
                refine sg rfl (decide_eq_false (by omega)) (o_fa0 fd25_4 rfl) rfl ?_
                refine sg rfl (decide_eq_false (by omega)) (o_ld sc22 rfl (Bg1.cell rfl)) rfl ?_
                refine sg rfl (decide_eq_false (by omega)) (o_len Tryd.underlying22 rfl) rfl ?_
                refine sg rfl (decide_eq_false (by omega)) (o_eql rfl rfl) rfl ?_
                refine sg rfl (decide_eq_true hstr) (o_pickF (decide_eq_false (by omega)) rfl rfl) rfl ?_
                refine sv (o_pickT (decide_eq_true hstr) rfl rfl) rfl ?_
                refine sv (o_mv rfl) rfl ?_
                refine sn rfl (fun e_ => absurd ((decide_eq_false hlist).symm.trans e_) (by decide)) rfl ?_
                refine sn rfl (fun e_ => absurd ((decide_eq_false hlist).symm.trans e_) (by decide)) rfl ?_
                refine sn rfl (fun e_ => absurd ((decide_eq_false hlist).symm.trans e_) (by decide)) rfl ?_
                refine snu rfl rfl rfl ?_
                refine snu rfl rfl rfl ?_
                refine snu rfl rfl rfl ?_
                refine snu rfl rfl rfl ?_
                refine sn rfl (fun e_ => absurd ((decide_eq_false hlist).symm.trans e_) (by decide)) rfl ?_
                refine sv (o_pickF (decide_eq_false hlist) rfl rfl) rfl ?_
                refine sv (o_as rfl) rfl ?_
                refine l_nil ?_
                refine e_K (hK3 _ _ _ _ ?_)
                refine c_ret ?_
                exact ret1 rfl rfl ⟨congrArg Value.bool (by simp only [JV.plain]; clear E R Rl Rm Bg1; simp_all <;> omega), E⟩
            · skip
              refine c_region ?_
              refine sv (o_mv rfl) rfl ?_
              refine sv (o_geq rfl rfl) rfl ?_
              refine sv (o_mv rfl) rfl ?_
              refine sg rfl (decide_eq_true hge) (o_mv rfl) rfl ?_
              refine sg rfl (decide_eq_true hge) (o_leq rfl rfl) rfl ?_
              refine sv (o_pickT (decide_eq_true hge) rfl rfl) rfl ?_
              refine sv (o_mv rfl) rfl ?_
              refine sg rfl (decide_eq_true hle) (o_mv rfl) rfl ?_
              refine sg rfl (decide_eq_true hle) (o_eql rfl rfl) rfl ?_
              refine sg rfl (decide_eq_true hle) (o_mv rfl) rfl ?_
              refine sg rfl (decide_eq_false hk1) (o_fa0 fd25_1 rfl) rfl ?_
              refine sg rfl (decide_eq_false hk1) (o_ld sc4 rfl (Bg1.cell rfl)) rfl ?_
              refine sg rfl (decide_eq_false hk1) (o_not rfl) rfl ?_
              refine sg rfl (decide_eq_true hle) (o_pickF (decide_eq_false hk1) rfl rfl) rfl ?_
              refine sv (o_pickT (decide_eq_true hle) rfl rfl) rfl ?_
              refine sv (o_mv rfl) rfl ?_
              refine sg rfl (his) (o_mv rfl) rfl ?_
              refine sg rfl (his) (o_eql rfl rfl) rfl ?_
              refine sg rfl (his) (o_mv rfl) rfl ?_
              refine sn rfl (fun e_ => absurd ((decide_eq_true hk2).symm.trans e_) (by decide)) rfl ?_
              refine sn rfl (fun e_ => absurd ((decide_eq_true hk2).symm.trans e_) (by decide)) rfl ?_
              refine sn rfl (fun e_ => absurd ((decide_eq_true hk2).symm.trans e_) (by decide)) rfl ?_
              refine sg rfl (his) (o_pickT (decide_eq_true hk2) rfl rfl) rfl ?_
              refine sv (o_pickT (his) rfl rfl) rfl ?_
              refine sv (o_mv rfl) rfl ?_
              refine sg rfl (rfl) (o_mv rfl) rfl ?_
              refine sg rfl (rfl) (o_eql rfl rfl) rfl ?_
              refine sg rfl (rfl) (o_mv rfl) rfl ?_
              refine sg rfl (decide_eq_false (by omega)) (o_fa0 fd25_3 rfl) rfl ?_
              refine sg rfl (decide_eq_false (by omega)) (o_ld sc9 rfl (Bg1.cell rfl)) rfl ?_
              refine sg rfl (decide_eq_false (by omega)) (o_seq rfl rfl) rfl ?_
              refine sg rfl (rfl) (o_pickF (decide_eq_false (by omega)) rfl rfl) rfl ?_
              refine sv (o_pickT (rfl) rfl rfl) rfl ?_
              refine sv (o_mv rfl) rfl ?_
              refine sn rfl (fun e_ => absurd ((decide_eq_false hstr).symm.trans e_) (by decide)) rfl ?_
              refine sn rfl (fun e_ => absurd ((decide_eq_false hstr).symm.trans e_) (by decide)) rfl ?_
              refine sn rfl (fun e_ => absurd ((decide_eq_false hstr).symm.trans e_) (by decide)) rfl ?_
              refine snu rfl rfl rfl ?_
              refine snu rfl rfl rfl ?_
              refine snu rfl rfl rfl ?_
              refine snu rfl rfl rfl ?_
              refine sn rfl (fun e_ => absurd ((decide_eq_false hstr).symm.trans e_) (by decide)) rfl ?_
              refine sv (o_pickF (decide_eq_false hstr) rfl rfl) rfl ?_
              refine sv (o_mv rfl) rfl ?_
              refine sn rfl (fun e_ => absurd ((rfl).symm.trans e_) (by decide)) rfl ?_
              refine sn rfl (fun e_ => absurd ((rfl).symm.trans e_) (by decide)) rfl ?_
              refine sn rfl (fun e_ => absurd ((rfl).symm.trans e_) (by decide)) rfl ?_
              refine snu rfl rfl rfl ?_
              refine snu rfl rfl rfl ?_
              refine snu rfl rfl rfl ?_
              refine snu rfl rfl rfl ?_
              refine sn rfl (fun e_ => absurd ((rfl).symm.trans e_) (by decide)) rfl ?_
              refine sv (o_pickF (rfl) rfl rfl) rfl ?_
              refine sv (o_as rfl) rfl ?_
              refine l_nil ?_
              refine e_K (hK3 _ _ _ _ ?_)
              refine c_ret ?_
              exact ret1 rfl rfl ⟨congrArg Value.bool (by simp only [JV.plain]; clear E R Rl Rm Bg1; simp_all <;> omega), E⟩
          · skip
            by_cases hnum : v.num = 0
            · skip
              by_cases hk3 : v.kind = 3
              · skip
                by_cases hlist : (v.list.length : Int) = 0
                · skip
                  by_cases hmap : (v.map.length : Int) = 0
                  · skip
                    refine c_region ?_
                    refine sv (o_mv rfl) rfl ?_
                    refine sv (o_geq rfl rfl) rfl ?_
                    refine sv (o_mv rfl) rfl ?_
                    refine sg rfl (decide_eq_true hge) (o_mv rfl) rfl ?_
                    refine sg rfl (decide_eq_true hge) (o_leq rfl rfl) rfl ?_
                    refine sv (o_pickT (decide_eq_true hge) rfl rfl) rfl ?_
                    refine sv (o_mv rfl) rfl ?_
                    refine sg rfl (decide_eq_true hle) (o_mv rfl) rfl ?_
                    refine sg rfl (decide_eq_true hle) (o_eql rfl rfl) rfl ?_
                    refine sg rfl (decide_eq_true hle) (o_mv rfl) rfl ?_
                    refine sg rfl (decide_eq_false hk1) (o_fa0 fd25_1 rfl) rfl ?_
                    refine sg rfl (decide_eq_false hk1) (o_ld sc4 rfl (Bg1.cell rfl)) rfl ?_
                    refine sg rfl (decide_eq_false hk1) (o_not rfl) rfl ?_
                    refine sg rfl (decide_eq_true hle) (o_pickF (decide_eq_false hk1) rfl rfl) rfl ?_
                    refine sv (o_pickT (decide_eq_true hle) rfl rfl) rfl ?_
                    refine sv (o_mv rfl) rfl ?_
                    refine sg rfl (his) (o_mv rfl) rfl ?_
                    refine sg rfl (his) (o_eql rfl rfl) rfl ?_
                    refine sg rfl (his) (o_mv rfl) rfl ?_
                    refine sg rfl (decide_eq_false hk2) (o_fa0 fd25_2 rfl) rfl ?_
                    refine sg rfl (decide_eq_false hk2) (o_ld sc3 rfl (Bg1.cell rfl)) rfl ?_
                    refine sg rfl (decide_eq_false hk2) (o_eql rfl rfl) rfl ?_
                    refine sg rfl (his) (o_pickF (decide_eq_false hk2) rfl rfl) rfl ?_
                    refine sv (o_pickT (his) rfl rfl) rfl ?_
                    refine sv (o_mv rfl) rfl ?_
                    refine sg rfl (decide_eq_true hnum) (o_mv rfl) rfl ?_
                    refine sg rfl (decide_eq_true hnum) (o_eql rfl rfl) rfl ?_
                    refine sg rfl (decide_eq_true hnum) (o_mv rfl) rfl ?_
                    refine sn rfl (fun e_ => absurd ((decide_eq_true hk3).symm.trans e_) (by decide)) rfl ?_
                    refine sn rfl (fun e_ => absurd ((decide_eq_true hk3).symm.trans e_) (by decide)) rfl ?_
                    refine sn rfl (fun e_ => absurd ((decide_eq_true hk3).symm.trans e_) (by decide)) rfl ?_
                    refine sg rfl (decide_eq_true hnum) (o_pickT (decide_eq_true hk3) rfl rfl) rfl ?_
                    refine sv (o_pickT (decide_eq_true hnum) rfl rfl) rfl ?_
                    refine sv (o_mv rfl) rfl ?_
                    refine sg rfl (rfl) (o_mv rfl) rfl ?_
                    refine sg rfl (rfl) (o_eql rfl rfl) rfl ?_
                    refine sg rfl (rfl) (o_mv rfl) rfl ?_
                    refine sg rfl (decide_eq_false (by omega)) (o_fa0 fd25_4 rfl) rfl ?_
                    refine sg rfl (decide_eq_false (by omega)) (o_ld sc22 rfl (Bg1.cell rfl)) rfl ?_
                    refine sg rfl (decide_eq_false (by omega)) (o_len Tryd.underlying22 rfl) rfl ?_
                    refine sg rfl (decide_eq_false (by omega)) (o_eql rfl rfl) rfl ?_
                    refine sg rfl (rfl) (o_pickF (decide_eq_false (by omega)) rfl rfl) rfl ?_
                    refine sv (o_pickT (rfl) rfl rfl) rfl ?_
                    refine sv (o_mv rfl) rfl ?_
                    refine sg rfl (decide_eq_true hlist) (o_mv rfl) rfl ?_
                    refine sg rfl (decide_eq_true hlist) (o_eql rfl rfl) rfl ?_
                    refine sg rfl (decide_eq_true hlist) (o_mv rfl) rfl ?_
                    refine sg rfl (decide_eq_false (by omega)) (o_fa0 fd25_5 rfl) rfl ?_
                    refine sg rfl (decide_eq_false (by omega)) (o_ld sc23 rfl (Bg1.cell rfl)) rfl ?_
                    refine sg rfl (decide_eq_false (by omega)) (o_len Tryd.underlying23 rfl) rfl ?_
                    refine sg rfl (decide_eq_false (by omega)) (o_eql rfl rfl) rfl ?_
                    refine sg rfl (decide_eq_true hlist) (o_pickF (decide_eq_false (by omega)) rfl rfl) rfl ?_
                    refine sv (o_pickT (decide_eq_true hlist) rfl rfl) rfl ?_
                    refine sv (o_as rfl) rfl ?_
                    refine l_nil ?_
                    refine e_K (hK3 _ _ _ _ ?_)
                    refine c_ret ?_
                    exact ret1 rfl rfl ⟨congrArg Value.bool (by simp only [JV.plain]; clear E R Rl Rm Bg1; simp_all <;> omega), E⟩
                  · skip
                    refine c_region ?_
                    refine sv (o_mv rfl) rfl ?_
                    refine sv (o_geq rfl rfl) rfl ?_
                    refine sv (o_mv rfl) rfl ?_
                    refine sg rfl (decide_eq_true hge) (o_mv rfl) rfl ?_
                    refine sg rfl (decide_eq_true hge) (o_leq rfl rfl) rfl ?_
                    refine sv (o_pickT (decide_eq_true hge) rfl rfl) rfl ?_
                    refine sv (o_mv rfl) rfl ?_
                    refine sg rfl (decide_eq_true hle) (o_mv rfl) rfl ?_
                    refine sg rfl (decide_eq_true hle) (o_eql rfl rfl) rfl ?_
                    refine sg rfl (decide_eq_true hle) (o_mv rfl) rfl ?_
                    refine sg rfl (decide_eq_false hk1) (o_fa0 fd25_1 rfl) rfl ?_
                    refine sg rfl (decide_eq_false hk1) (o_ld sc4 rfl (Bg1.cell rfl)) rfl ?_
                    refine sg rfl (decide_eq_false hk1) (o_not rfl) rfl ?_
                    refine sg rfl (decide_eq_true hle) (o_pickF (decide_eq_false hk1) rfl rfl) rfl ?_
                    refine sv (o_pickT (decide_eq_true hle) rfl rfl) rfl ?_
                    refine sv (o_mv rfl) rfl ?_
                    refine sg rfl (his) (o_mv rfl) rfl ?_
                    refine sg rfl (his) (o_eql rfl rfl) rfl ?_
                    refine sg rfl (his) (o_mv rfl) rfl ?_
                    refine sg rfl (decide_eq_false hk2) (o_fa0 fd25_2 rfl) rfl ?_
                    refine sg rfl (decide_eq_false hk2) (o_ld sc3 rfl (Bg1.cell rfl)) rfl ?_
                    refine sg rfl (decide_eq_false hk2) (o_eql rfl rfl) rfl ?_
                    refine sg rfl (his) (o_pickF (decide_eq_false hk2) rfl rfl) rfl ?_
                    refine sv (o_pickT (his) rfl rfl) rfl ?_
                    refine sv (o_mv rfl) rfl ?_
                    refine sg rfl (decide_eq_true hnum) (o_mv rfl) rfl ?_
                    refine sg rfl (decide_eq_true hnum) (o_eql rfl rfl) rfl ?_
                    refine sg rfl (decide_eq_true hnum) (o_mv rfl) rfl ?_
                    refine sn rfl (fun e_ => absurd ((decide_eq_true hk3).symm.trans e_) (by decide)) rfl ?_
                    refine sn rfl (fun e_ => absurd ((decide_eq_true hk3).symm.trans e_) (by decide)) rfl ?_
                    refine sn rfl (fun e_ => absurd ((decide_eq_true hk3).symm.trans e_) (by decide)) rfl ?_
                    refine sg rfl (decide_eq_true hnum) (o_pickT (decide_eq_true hk3) rfl rfl) rfl ?_
                    refine sv (o_pickT (decide_eq_true hnum) rfl rfl) rfl ?_
                    refine sv (o_mv rfl) rfl ?_
                    refine sg rfl (rfl) (o_mv rfl) rfl ?_
                    refine sg rfl (rfl) (o_eql rfl rfl) rfl ?_
                    refine sg rfl (rfl) (o_mv rfl) rfl ?_
                    refine sg rfl (decide_eq_false (by omega)) (o_fa0 fd25_4 rfl) rfl ?_
                    refine sg rfl (decide_eq_false (by omega)) (o_ld sc22 rfl (Bg1.cell rfl)) rfl ?_
                    refine sg rfl (decide_eq_false (by omega)) (o_len Tryd.underlying22 rfl) rfl ?_
                    refine sg rfl (decide_eq_false (by omega)) (o_eql rfl rfl) rfl ?_
                    refine sg rfl (rfl) (o_pickF (decide_eq_false (by omega)) rfl rfl) rfl ?_
                    refine sv (o_pickT (rfl) rfl rfl) rfl ?_
                    refine sv (o_mv rfl) rfl ?_
                    refine sg rfl (decide_eq_true hlist) (o_mv rfl) rfl ?_
                    refine sg rfl (decide_eq_true hlist) (o_eql rfl rfl) rfl ?_
                    refine sg rfl (decide_eq_true hlist) (o_mv rfl) rfl ?_
                    refine sg rfl (decide_eq_false (by omega)) (o_fa0 fd25_5 rfl) rfl ?_
                    refine sg rfl (decide_eq_false (by omega)) (o_ld sc23 rfl (Bg1.cell rfl)) rfl ?_
                    refine sg rfl (decide_eq_false (by omega)) (o_len Tryd.underlying23 rfl) rfl ?_
                    refine sg rfl (decide_eq_false (by omega)) (o_eql rfl rfl) rfl ?_
                    refine sg rfl (decide_eq_true hlist) (o_pickF (decide_eq_false (by omega)) rfl rfl) rfl ?_
                    refine sv (o_pickT (decide_eq_true hlist) rfl rfl) rfl ?_
                    refine sv (o_as rfl) rfl ?_
                    refine l_nil ?_
                    refine e_K (hK3 _ _ _ _ ?_)
                    refine c_ret ?_
                    exact ret1 rfl rfl ⟨congrArg Value.bool (by simp only [JV.plain]; clear E R Rl Rm Bg1; simp_all <;> omega), E⟩
                · skip
                  refine c_region ?_
                  refine sv (o_mv rfl) rfl ?_
                  refine sv (o_geq rfl rfl) rfl ?_
                  refine sv (o_mv rfl) rfl ?_
                  refine sg rfl (decide_eq_true hge) (o_mv rfl) rfl ?_
                  refine sg rfl (decide_eq_true hge) (o_leq rfl rfl) rfl ?_
                  refine sv (o_pickT (decide_eq_true hge) rfl rfl) rfl ?_
                  refine sv (o_mv rfl) rfl ?_
                  refine sg rfl (decide_eq_true hle) (o_mv rfl) rfl ?_
                  refine sg rfl (decide_eq_true hle) (o_eql rfl rfl) rfl ?_
                  refine sg rfl (decide_eq_true hle) (o_mv rfl) rfl ?_
                  refine sg rfl (decide_eq_false hk1) (o_fa0 fd25_1 rfl) rfl ?_
                  refine sg rfl (decide_eq_false hk1) (o_ld sc4 rfl (Bg1.cell rfl)) rfl ?_
                  refine sg rfl (decide_eq_false hk1) (o_not rfl) rfl ?_
                  refine sg rfl (decide_eq_true hle) (o_pickF (decide_eq_false hk1) rfl rfl) rfl ?_
                  refine sv (o_pickT (decide_eq_true hle) rfl rfl) rfl ?_
                  refine sv (o_mv rfl) rfl ?_
                  refine sg rfl (his) (o_mv rfl) rfl ?_
                  refine sg rfl (his) (o_eql rfl rfl) rfl ?_
                  refine sg rfl (his) (o_mv rfl) rfl ?_
                  refine sg rfl (decide_eq_false hk2) (o_fa0 fd25_2 rfl) rfl ?_
                  refine sg rfl (decide_eq_false hk2) (o_ld sc3 rfl (Bg1.cell rfl)) rfl ?_
                  refine sg rfl (decide_eq_false hk2) (o_eql rfl rfl) rfl ?_
                  refine sg rfl (his) (o_pickF (decide_eq_false hk2) rfl rfl) rfl ?_
                  refine sv (o_pickT (his) rfl rfl) rfl ?_
                  refine sv (o_mv rfl) rfl ?_
                  refine sg rfl (decide_eq_true hnum) (o_mv rfl) rfl ?_
                  refine sg rfl (decide_eq_true hnum) (o_eql rfl rfl) rfl ?_
                  refine sg rfl (decide_eq_true hnum) (o_mv rfl) rfl ?_
                  refine sn rfl (fun e_ => absurd ((decide_eq_true hk3).symm.trans e_) (by decide)) rfl ?_
                  refine sn rfl (fun e_ => absurd ((decide_eq_true hk3).symm.trans e_) (by decide)) rfl ?_
                  refine sn rfl (fun e_ => absurd ((decide_eq_true hk3).symm.trans e_) (by decide)) rfl ?_
                  refine sg rfl (decide_eq_true hnum) (o_pickT (decide_eq_true hk3) rfl rfl) rfl ?_
                  refine sv (o_pickT (decide_eq_true hnum) rfl rfl) rfl ?_
                  refine sv (o_mv rfl) rfl ?_
                  refine sg rfl (rfl) (o_mv rfl) rfl ?_
                  refine sg rfl (rfl) (o_eql rfl rfl) rfl ?_
                  refine sg rfl (rfl) (o_mv rfl) rfl ?_
                  refine sg rfl (decide_eq_false (by omega)) (o_fa0 fd25_4 rfl) rfl ?_
                  refine sg rfl (decide_eq_false (by omega)) (o_ld sc22 rfl (Bg1.cell rfl)) rfl ?_
                  refine sg rfl (decide_eq_false (by omega)) (o_len Tryd.underlying22 rfl) rfl ?_
                  refine sg rfl (decide_eq_false (by omega)) (o_eql rfl rfl) rfl ?_
                  refine sg rfl (rfl) (o_pickF (decide_eq_false (by omega)) rfl rfl) rfl ?_
                  refine sv (o_pickT (rfl) rfl rfl) rfl ?_
                  refine sv (o_mv rfl) rfl ?_
                  refine sn rfl (fun e_ => absurd ((decide_eq_false hlist).symm.trans e_) (by decide)) rfl ?_
                  refine sn rfl (fun e_ => absurd ((decide_eq_false hlist).symm.trans e_) (by decide)) rfl ?_
                  refine sn rfl (fun e_ => absurd ((decide_eq_false hlist).symm.trans e_) (by decide)) rfl ?_
                  refine snu rfl rfl rfl ?_
                  refine snu rfl rfl rfl ?_
                  refine snu rfl rfl rfl ?_
                  refine snu rfl rfl rfl ?_
                  refine sn rfl (fun e_ => absurd ((decide_eq_false hlist).symm.trans e_) (by decide)) rfl ?_
                  refine sv (o_pickF (decide_eq_false hlist) rfl rfl) rfl ?_
                  refine sv (o_as rfl) rfl ?_
                  refine l_nil ?_
                  refine e_K (hK3 _ _ _ _ ?_)
                  refine c_ret ?_
                  exact ret1 rfl rfl ⟨congrArg Value.bool (by simp only [JV.plain]; clear E R Rl Rm Bg1; simp_all <;> omega), E⟩
              · skip
                by_cases hstr : v.str = []
                · skip
                  by_cases hk4 : v.kind = 4
                  · skip
                    by_cases hmap : (v.map.length : Int) = 0
                    · skip
                      refine c_region ?_
                      refine sv (o_mv rfl) rfl ?_
                      refine sv (o_geq rfl rfl) rfl ?_
                      refine sv (o_mv rfl) rfl ?_
                      refine sg rfl (decide_eq_true hge) (o_mv rfl) rfl ?_
                      refine sg rfl (decide_eq_true hge) (o_leq rfl rfl) rfl ?_
                      refine sv (o_pickT (decide_eq_true hge) rfl rfl) rfl ?_
                      refine sv (o_mv rfl) rfl ?_
                      refine sg rfl (decide_eq_true hle) (o_mv rfl) rfl ?_
                      refine sg rfl (decide_eq_true hle) (o_eql rfl rfl) rfl ?_
                      refine sg rfl (decide_eq_true hle) (o_mv rfl) rfl ?_
                      refine sg rfl (decide_eq_false hk1) (o_fa0 fd25_1 rfl) rfl ?_
                      refine sg rfl (decide_eq_false hk1) (o_ld sc4 rfl (Bg1.cell rfl)) rfl ?_
                      refine sg rfl (decide_eq_false hk1) (o_not rfl) rfl ?_
                      refine sg rfl (decide_eq_true hle) (o_pickF (decide_eq_false hk1) rfl rfl) rfl ?_
                      refine sv (o_pickT (decide_eq_true hle) rfl rfl) rfl ?_
                      refine sv (o_mv rfl) rfl ?_
                      refine sg rfl (his) (o_mv rfl) rfl ?_
                      refine sg rfl (his) (o_eql rfl rfl) rfl ?_
                      refine sg rfl (his) (o_mv rfl) rfl ?_
                      refine sg rfl (decide_eq_false hk2) (o_fa0 fd25_2 rfl) rfl ?_
                      refine sg rfl (decide_eq_false hk2) (o_ld sc3 rfl (Bg1.cell rfl)) rfl ?_
                      refine sg rfl (decide_eq_false hk2) (o_eql rfl rfl) rfl ?_
                      refine sg rfl (his) (o_pickF (decide_eq_false hk2) rfl rfl) rfl ?_
                      refine sv (o_pickT (his) rfl rfl) rfl ?_
                      refine sv (o_mv rfl) rfl ?_
                      refine sg rfl (decide_eq_true hnum) (o_mv rfl) rfl ?_
                      refine sg rfl (decide_eq_true hnum) (o_eql rfl rfl) rfl ?_
                      refine sg rfl (decide_eq_true hnum) (o_mv rfl) rfl ?_
                      refine sg rfl (decide_eq_false hk3) (o_fa0 fd25_3 rfl) rfl ?_
                      refine sg rfl (decide_eq_false hk3) (o_ld sc9 rfl (Bg1.cell rfl)) rfl ?_
                      refine sg rfl (decide_eq_false hk3) (o_seq rfl rfl) rfl ?_
                      refine sg rfl (decide_eq_true hnum) (o_pickF (decide_eq_false hk3) rfl rfl) rfl ?_
                      refine sv (o_pickT (decide_eq_true hnum) rfl rfl) rfl ?_
                      refine sv (o_mv rfl) rfl ?_
                      refine sg rfl (decide_eq_true hstr) (o_mv rfl) rfl ?_
                      refine sg rfl (decide_eq_true hstr) (o_eql rfl rfl) rfl ?_
                      refine sg rfl (decide_eq_true hstr) (o_mv rfl) rfl ?_
                      refine sn rfl (fun e_ => absurd ((decide_eq_true hk4).symm.trans e_) (by decide)) rfl ?_
                      refine sn rfl (fun e_ => absurd ((decide_eq_true hk4).symm.trans e_) (by decide)) rfl ?_
                      refine sn rfl (fun e_ => absurd ((decide_eq_true hk4).symm.trans e_) (by decide)) rfl ?_
                      refine sn rfl (fun e_ => absurd ((decide_eq_true hk4).symm.trans e_) (by decide)) rfl ?_
                      refine sg rfl (decide_eq_true hstr) (o_pickT (decide_eq_true hk4) rfl rfl) rfl ?_
                      refine sv (o_pickT (decide_eq_true hstr) rfl rfl) rfl ?_
                      refine sv (o_mv rfl) rfl ?_
                      refine sg rfl (rfl) (o_mv rfl) rfl ?_
                      refine sg rfl (rfl) (o_eql rfl rfl) rfl ?_
                      refine sg rfl (rfl) (o_mv rfl) rfl ?_
                      refine sg rfl (decide_eq_false (by omega)) (o_fa0 fd25_5 rfl) rfl ?_
                      refine sg rfl (decide_eq_false (by omega)) (o_ld sc23 rfl (Bg1.cell rfl)) rfl ?_
                      refine sg rfl (decide_eq_false (by omega)) (o_len Tryd.underlying23 rfl) rfl ?_
                      refine sg rfl (decide_eq_false (by omega)) (o_eql rfl rfl) rfl ?_
                      refine sg rfl (rfl) (o_pickF (decide_eq_false (by omega)) rfl rfl) rfl ?_
                      refine sv (o_pickT (rfl) rfl rfl) rfl ?_
                      refine sv (o_as rfl) rfl ?_
                      refine l_nil ?_
                      refine e_K (hK3 _ _ _ _ ?_)
                      refine c_ret ?_
                      exact ret1 rfl rfl ⟨congrArg Value.bool (by simp only [JV.plain]; clear E R Rl Rm Bg1; simp_all <;> omega), E⟩
                    · skip
                      refine c_region ?_
                      refine sv (o_mv rfl) rfl ?_
                      refine sv (o_geq rfl rfl) rfl ?_
                      refine sv (o_mv rfl) rfl ?_
                      refine sg rfl (decide_eq_true hge) (o_mv rfl) rfl ?_
                      refine sg rfl (decide_eq_true hge) (o_leq rfl rfl) rfl ?_
                      refine sv (o_pickT (decide_eq_true hge) rfl rfl) rfl ?_
                      refine sv (o_mv rfl) rfl ?_
                      refine sg rfl (decide_eq_true hle) (o_mv rfl) rfl ?_
                      refine sg rfl (decide_eq_true hle) (o_eql rfl rfl) rfl ?_
                      refine sg rfl (decide_eq_true hle) (o_mv rfl) rfl ?_
                      refine sg rfl (decide_eq_false hk1) (o_fa0 fd25_1 rfl) rfl ?_
                      refine sg rfl (decide_eq_false hk1) (o_ld sc4 rfl (Bg1.cell rfl)) rfl ?_
                      refine sg rfl (decide_eq_false hk1) (o_not rfl) rfl ?_
                      refine sg rfl (decide_eq_true hle) (o_pickF (decide_eq_false hk1) rfl rfl) rfl ?_
                      refine sv (o_pickT (decide_eq_true hle) rfl rfl) rfl ?_
                      refine sv (o_mv rfl) rfl ?_
                      refine sg rfl (his) (o_mv rfl) rfl ?_
                      refine sg rfl (his) (o_eql rfl rfl) rfl ?_
                      refine sg rfl (his) (o_mv rfl) rfl ?_
                      refine sg rfl (decide_eq_false hk2) (o_fa0 fd25_2 rfl) rfl ?_
                      refine sg rfl (decide_eq_false hk2) (o_ld sc3 rfl (Bg1.cell rfl)) rfl ?_
                      refine sg rfl (decide_eq_false hk2) (o_eql rfl rfl) rfl ?_
                      refine sg rfl (his) (o_pickF (decide_eq_false hk2) rfl rfl) rfl ?_
                      refine sv (o_pickT (his) rfl rfl) rfl ?_
                      refine sv (o_mv rfl) rfl ?_
                      refine sg rfl (decide_eq_true hnum) (o_mv rfl) rfl ?_
                      refine sg rfl (decide_eq_true hnum) (o_eql rfl rfl) rfl ?_
                      refine sg rfl (decide_eq_true hnum) (o_mv rfl) rfl ?_
                      refine sg rfl (decide_eq_false hk3) (o_fa0 fd25_3 rfl) rfl ?_
                      refine sg rfl (decide_eq_false hk3) (o_ld sc9 rfl (Bg1.cell rfl)) rfl ?_
                      refine sg rfl (decide_eq_false hk3) (o_seq rfl rfl) rfl ?_
                      refine sg rfl (decide_eq_true hnum) (o_pickF (decide_eq_false hk3) rfl rfl) rfl ?_
                      refine sv (o_pickT (decide_eq_true hnum) rfl rfl) rfl ?_
                      refine sv (o_mv rfl) rfl ?_
                      refine sg rfl (decide_eq_true hstr) (o_mv rfl) rfl ?_
                      refine sg rfl (decide_eq_true hstr) (o_eql rfl rfl) rfl ?_
                      refine sg rfl (decide_eq_true hstr) (o_mv rfl) rfl ?_
                      refine sn rfl (fun e_ => absurd ((decide_eq_true hk4).symm.trans e_) (by decide)) rfl ?_
                      refine sn rfl (fun e_ => absurd ((decide_eq_true hk4).symm.trans e_) (by decide)) rfl ?_
                      refine sn rfl (fun e_ => absurd ((decide_eq_true hk4).symm.trans e_) (by decide)) rfl ?_
                      refine sn rfl (fun e_ => absurd ((decide_eq_true hk4).symm.trans e_) (by decide)) rfl ?_
                      refine sg rfl (decide_eq_true hstr) (o_pickT (decide_eq_true hk4) rfl rfl) rfl ?_
                      refine sv (o_pickT (decide_eq_true hstr) rfl rfl) rfl ?_
                      refine sv (o_mv rfl) rfl ?_
                      refine sg rfl (rfl) (o_mv rfl) rfl ?_
                      refine sg rfl (rfl) (o_eql rfl rfl) rfl ?_
                      refine sg rfl (rfl) (o_mv rfl) rfl ?_
                      refine sg rfl (decide_eq_false (by omega)) (o_fa0 fd25_5 rfl) rfl ?_
                      refine sg rfl (decide_eq_false (by omega)) (o_ld sc23 rfl (Bg1.cell rfl)) rfl ?_
                      refine sg rfl (decide_eq_false (by omega)) (o_len Tryd.underlying23 rfl) rfl ?_
                      refine sg rfl (decide_eq_false (by omega)) (o_eql rfl rfl) rfl ?_
                      refine sg rfl (rfl) (o_pickF (decide_eq_false (by omega)) rfl rfl) rfl ?_
                      refine sv (o_pickT (rfl) rfl rfl) rfl ?_
                      refine sv (o_as rfl) rfl ?_
                      refine l_nil ?_
                      refine e_K (hK3 _ _ _ _ ?_)
                      refine c_ret ?_
                      exact ret1 rfl rfl ⟨congrArg Value.bool (by simp only [JV.plain]; clear E R Rl Rm Bg1; simp_all <;> omega), E⟩
                  · skip
                    by_cases hlist : (v.list.length : Int) = 0
                    · skip
                      by_cases hk5 : v.kind = 5
                      · skip
                        refine c_region ?_
                        refine sv (o_mv rfl) rfl ?_
                        refine sv (o_geq rfl rfl) rfl ?_
                        refine sv (o_mv rfl) rfl ?_
                        refine sg rfl (decide_eq_true hge) (o_mv rfl) rfl ?_
                        refine sg rfl (decide_eq_true hge) (o_leq rfl rfl) rfl ?_
                        refine sv (o_pickT (decide_eq_true hge) rfl rfl) rfl ?_
                        refine sv (o_mv rfl) rfl ?_
                        refine sg rfl (decide_eq_true hle) (o_mv rfl) rfl ?_
                        refine sg rfl (decide_eq_true hle) (o_eql rfl rfl) rfl ?_
                        refine sg rfl (decide_eq_true hle) (o_mv rfl) rfl ?_
                        refine sg rfl (decide_eq_false hk1) (o_fa0 fd25_1 rfl) rfl ?_
                        refine sg rfl (decide_eq_false hk1) (o_ld sc4 rfl (Bg1.cell rfl)) rfl ?_
                        refine sg rfl (decide_eq_false hk1) (o_not rfl) rfl ?_
                        refine sg rfl (decide_eq_true hle) (o_pickF (decide_eq_false hk1) rfl rfl) rfl ?_
                        refine sv (o_pickT (decide_eq_true hle) rfl rfl) rfl ?_
                        refine sv (o_mv rfl) rfl ?_
                        refine sg rfl (his) (o_mv rfl) rfl ?_
                        refine sg rfl (his) (o_eql rfl rfl) rfl ?_
                        refine sg rfl (his) (o_mv rfl) rfl ?_
                        refine sg rfl (decide_eq_false hk2) (o_fa0 fd25_2 rfl) rfl ?_
                        refine sg rfl (decide_eq_false hk2) (o_ld sc3 rfl (Bg1.cell rfl)) rfl ?_
                        refine sg rfl (decide_eq_false hk2) (o_eql rfl rfl) rfl ?_
                        refine sg rfl (his) (o_pickF (decide_eq_false hk2) rfl rfl) rfl ?_
                        refine sv (o_pickT (his) rfl rfl) rfl ?_
                        refine sv (o_mv rfl) rfl ?_
                        refine sg rfl (decide_eq_true hnum) (o_mv rfl) rfl ?_
                        refine sg rfl (decide_eq_true hnum) (o_eql rfl rfl) rfl ?_
                        refine sg rfl (decide_eq_true hnum) (o_mv rfl) rfl ?_
                        refine sg rfl (decide_eq_false hk3) (o_fa0 fd25_3 rfl) rfl ?_
                        refine sg rfl (decide_eq_false hk3) (o_ld sc9 rfl (Bg1.cell rfl)) rfl ?_
                        refine sg rfl (decide_eq_false hk3) (o_seq rfl rfl) rfl ?_
                        refine sg rfl (decide_eq_true hnum) (o_pickF (decide_eq_false hk3) rfl rfl) rfl ?_
                        refine sv (o_pickT (decide_eq_true hnum) rfl rfl) rfl ?_
                        refine sv (o_mv rfl) rfl ?_
                        refine sg rfl (decide_eq_true hstr) (o_mv rfl) rfl ?_
                        refine sg rfl (decide_eq_true hstr) (o_eql rfl rfl) rfl ?_
                        refine sg rfl (decide_eq_true hstr) (o_mv rfl) rfl ?_
                        refine sg rfl (decide_eq_false hk4) (o_fa0 fd25_4 rfl) rfl ?_
                        refine sg rfl (decide_eq_false hk4) (o_ld sc22 rfl (Bg1.cell rfl)) rfl ?_
                        refine sg rfl (decide_eq_false hk4) (o_len Tryd.underlying22 rfl) rfl ?_
                        refine sg rfl (decide_eq_false hk4) (o_eql rfl rfl) rfl ?_
                        refine sg rfl (decide_eq_true hstr) (o_pickF (decide_eq_false hk4) rfl rfl) rfl ?_
                        refine sv (o_pickT (decide_eq_true hstr) rfl rfl) rfl ?_
                        refine sv (o_mv rfl) rfl ?_
                        refine sg rfl (decide_eq_true hlist) (o_mv rfl) rfl ?_
                        refine sg rfl (decide_eq_true hlist) (o_eql rfl rfl) rfl ?_
                        refine sg rfl (decide_eq_true hlist) (o_mv rfl) rfl ?_
                        refine sn rfl (fun e_ => absurd ((decide_eq_true hk5).symm.trans e_) (by decide)) rfl ?_
                        refine sn rfl (fun e_ => absurd ((decide_eq_true hk5).symm.trans e_) (by decide)) rfl ?_
                        refine sn rfl (fun e_ => absurd ((decide_eq_true hk5).symm.trans e_) (by decide)) rfl ?_
                        refine sn rfl (fun e_ => absurd ((decide_eq_true hk5).symm.trans e_) (by decide)) rfl ?_
                        refine sg rfl (decide_eq_true hlist) (o_pickT (decide_eq_true hk5) rfl rfl) rfl ?_
                        refine sv (o_pickT (decide_eq_true hlist) rfl rfl) rfl ?_
                        refine sv (o_as rfl) rfl ?_
                        refine l_nil ?_
                        refine e_K (hK3 _ _ _ _ ?_)
                        refine c_ret ?_
                        exact ret1 rfl rfl ⟨congrArg Value.bool (by simp only [JV.plain]; clear E R Rl Rm Bg1; simp_all <;> omega), E⟩
                      · skip
                        by_cases hmap : (v.map.length : Int) = 0
                        · skip
                          refine c_region ?_
                          refine sv (o_mv rfl) rfl ?_
                          refine sv (o_geq rfl rfl) rfl ?_
                          refine sv (o_mv rfl) rfl ?_
                          refine sg rfl (decide_eq_true hge) (o_mv rfl) rfl ?_
                          refine sg rfl (decide_eq_true hge) (o_leq rfl rfl) rfl ?_
                          refine sv (o_pickT (decide_eq_true hge) rfl rfl) rfl ?_
                          refine sv (o_mv rfl) rfl ?_
                          refine sg rfl (decide_eq_true hle) (o_mv rfl) rfl ?_
                          refine sg rfl (decide_eq_true hle) (o_eql rfl rfl) rfl ?_
                          refine sg rfl (decide_eq_true hle) (o_mv rfl) rfl ?_
                          refine sg rfl (decide_eq_false hk1) (o_fa0 fd25_1 rfl) rfl ?_
                          refine sg rfl (decide_eq_false hk1) (o_ld sc4 rfl (Bg1.cell rfl)) rfl ?_
                          refine sg rfl (decide_eq_false hk1) (o_not rfl) rfl ?_
                          refine sg rfl (decide_eq_true hle) (o_pickF (decide_eq_false hk1) rfl rfl) rfl ?_
                          refine sv (o_pickT (decide_eq_true hle) rfl rfl) rfl ?_
                          refine sv (o_mv rfl) rfl ?_
                          refine sg rfl (his) (o_mv rfl) rfl ?_
                          refine sg rfl (his) (o_eql rfl rfl) rfl ?_
                          refine sg rfl (his) (o_mv rfl) rfl ?_
                          refine sg rfl (decide_eq_false hk2) (o_fa0 fd25_2 rfl) rfl ?_
                          refine sg rfl (decide_eq_false hk2) (o_ld sc3 rfl (Bg1.cell rfl)) rfl ?_
                          refine sg rfl (decide_eq_false hk2) (o_eql rfl rfl) rfl ?_
                          refine sg rfl (his) (o_pickF (decide_eq_false hk2) rfl rfl) rfl ?_
                          refine sv (o_pickT (his) rfl rfl) rfl ?_
                          refine sv (o_mv rfl) rfl ?_
                          refine sg rfl (decide_eq_true hnum) (o_mv rfl) rfl ?_
                          refine sg rfl (decide_eq_true hnum) (o_eql rfl rfl) rfl ?_
                          refine sg rfl (decide_eq_true hnum) (o_mv rfl) rfl ?_
                          refine sg rfl (decide_eq_false hk3) (o_fa0 fd25_3 rfl) rfl ?_
                          refine sg rfl (decide_eq_false hk3) (o_ld sc9 rfl (Bg1.cell rfl)) rfl ?_
                          refine sg rfl (decide_eq_false hk3) (o_seq rfl rfl) rfl ?_
                          refine sg rfl (decide_eq_true hnum) (o_pickF (decide_eq_false hk3) rfl rfl) rfl ?_
                          refine sv (o_pickT (decide_eq_true hnum) rfl rfl) rfl ?_
                          refine sv (o_mv rfl) rfl ?_
                          refine sg rfl (decide_eq_true hstr) (o_mv rfl) rfl ?_
                          refine sg rfl (decide_eq_true hstr) (o_eql rfl rfl) rfl ?_
                          refine sg rfl (decide_eq_true hstr) (o_mv rfl) rfl ?_
                          refine sg rfl (decide_eq_false hk4) (o_fa0 fd25_4 rfl) rfl ?_
                          refine sg rfl (decide_eq_false hk4) (o_ld sc22 rfl (Bg1.cell rfl)) rfl ?_
                          refine sg rfl (decide_eq_false hk4) (o_len Tryd.underlying22 rfl) rfl ?_
                          refine sg rfl (decide_eq_false hk4) (o_eql rfl rfl) rfl ?_
                          refine sg rfl (decide_eq_true hstr) (o_pickF (decide_eq_false hk4) rfl rfl) rfl ?_
                          refine sv (o_pickT (decide_eq_true hstr) rfl rfl) rfl ?_
                          refine sv (o_mv rfl) rfl ?_
                          refine sg rfl (decide_eq_true hlist) (o_mv rfl) rfl ?_
                          refine sg rfl (decide_eq_true hlist) (o_eql rfl rfl) rfl ?_
                          refine sg rfl (decide_eq_true hlist) (o_mv rfl) rfl ?_
                          refine sg rfl (decide_eq_false hk5) (o_fa0 fd25_5 rfl) rfl ?_
                          refine sg rfl (decide_eq_false hk5) (o_ld sc23 rfl (Bg1.cell rfl)) rfl ?_
                          refine sg rfl (decide_eq_false hk5) (o_len Tryd.underlying23 rfl) rfl ?_
                          refine sg rfl (decide_eq_false hk5) (o_eql rfl rfl) rfl ?_
                          refine sg rfl (decide_eq_true hlist) (o_pickF (decide_eq_false hk5) rfl rfl) rfl ?_
                          refine sv (o_pickT (decide_eq_true hlist) rfl rfl) rfl ?_
                          refine sv (o_as rfl) rfl ?_
                          refine l_nil ?_
                          refine e_K (hK3 _ _ _ _ ?_)
                          refine c_ret ?_
                          exact ret1 rfl rfl ⟨congrArg Value.bool (by simp only [JV.plain]; clear E R Rl Rm Bg1; simp_all <;> omega), E⟩
                        · skip
                          refine c_region ?_
                          refine sv (o_mv rfl) rfl ?_
                          refine sv (o_geq rfl rfl) rfl ?_
                          refine sv (o_mv rfl) rfl ?_
                          refine sg rfl (decide_eq_true hge) (o_mv rfl) rfl ?_
                          refine sg rfl (decide_eq_true hge) (o_leq rfl rfl) rfl ?_
                          refine sv (o_pickT (decide_eq_true hge) rfl rfl) rfl ?_
                          refine sv (o_mv rfl) rfl ?_
                          refine sg rfl (decide_eq_true hle) (o_mv rfl) rfl ?_
                          refine sg rfl (decide_eq_true hle) (o_eql rfl rfl) rfl ?_
                          refine sg rfl (decide_eq_true hle) (o_mv rfl) rfl ?_
                          refine sg rfl (decide_eq_false hk1) (o_fa0 fd25_1 rfl) rfl ?_
                          refine sg rfl (decide_eq_false hk1) (o_ld sc4 rfl (Bg1.cell rfl)) rfl ?_
                          refine sg rfl (decide_eq_false hk1) (o_not rfl) rfl ?_
                          refine sg rfl (decide_eq_true hle) (o_pickF (decide_eq_false hk1) rfl rfl) rfl ?_
                          refine sv (o_pickT (decide_eq_true hle) rfl rfl) rfl ?_
                          refine sv (o_mv rfl) rfl ?_
                          refine sg rfl (his) (o_mv rfl) rfl ?_
                          refine sg rfl (his) (o_eql rfl rfl) rfl ?_
                          refine sg rfl (his) (o_mv rfl) rfl ?_
                          refine sg rfl (decide_eq_false hk2) (o_fa0 fd25_2 rfl) rfl ?_
                          refine sg rfl (decide_eq_false hk2) (o_ld sc3 rfl (Bg1.cell rfl)) rfl ?_
                          refine sg rfl (decide_eq_false hk2) (o_eql rfl rfl) rfl ?_
                          refine sg rfl (his) (o_pickF (decide_eq_false hk2) rfl rfl) rfl ?_
                          refine sv (o_pickT (his) rfl rfl) rfl ?_
                          refine sv (o_mv rfl) rfl ?_
                          refine sg rfl (decide_eq_true hnum) (o_mv rfl) rfl ?_
                          refine sg rfl (decide_eq_true hnum) (o_eql rfl rfl) rfl ?_
                          refine sg rfl (decide_eq_true hnum) (o_mv rfl) rfl ?_
                          refine sg rfl (decide_eq_false hk3) (o_fa0 fd25_3 rfl) rfl ?_
                          refine sg rfl (decide_eq_false hk3) (o_ld sc9 rfl (Bg1.cell rfl)) rfl ?_
                          refine sg rfl (decide_eq_false hk3) (o_seq rfl rfl) rfl ?_
                          refine sg rfl (decide_eq_true hnum) (o_pickF (decide_eq_false hk3) rfl rfl) rfl ?_
                          refine sv (o_pickT (decide_eq_true hnum) rfl rfl) rfl ?_
                          refine sv (o_mv rfl) rfl ?_
                          refine sg rfl (decide_eq_true hstr) (o_mv rfl) rfl ?_
                          refine sg rfl (decide_eq_true hstr) (o_eql rfl rfl) rfl ?_
                          refine sg rfl (decide_eq_true hstr) (o_mv rfl) rfl ?_
                          refine sg rfl (decide_eq_false hk4) (o_fa0 fd25_4 rfl) rfl ?_
                          refine sg rfl (decide_eq_false hk4) (o_ld sc22 rfl (Bg1.cell rfl)) rfl ?_
                          refine sg rfl (decide_eq_false hk4) (o_len Tryd.underlying22 rfl) rfl ?_
                          refine sg rfl (decide_eq_false hk4) (o_eql rfl rfl) rfl ?_
                          refine sg rfl (decide_eq_true hstr) (o_pickF (decide_eq_false hk4) rfl rfl) rfl ?_
                          refine sv (o_pickT (decide_eq_true hstr) rfl rfl) rfl ?_
                          refine sv (o_mv rfl) rfl ?_
                          refine sg rfl (decide_eq_true hlist) (o_mv rfl) rfl ?_
                          refine sg rfl (decide_eq_true hlist) (o_eql rfl rfl) rfl ?_
                          refine sg rfl (decide_eq_true hlist) (o_mv rfl) rfl ?_
                          refine sg rfl (decide_eq_false hk5) (o_fa0 fd25_5 rfl) rfl ?_
                          refine sg rfl (decide_eq_false hk5) (o_ld sc23 rfl (Bg1.cell rfl)) rfl ?_
                          refine sg rfl (decide_eq_false hk5) (o_len Tryd.underlying23 rfl) rfl ?_
                          refine sg rfl (decide_eq_false hk5) (o_eql rfl rfl) rfl ?_
                          refine sg rfl (decide_eq_true hlist) (o_pickF (decide_eq_false hk5) rfl rfl) rfl ?_
                          refine sv (o_pickT (decide_eq_true hlist) rfl rfl) rfl ?_
                          refine sv (o_as rfl) rfl ?_
                          refine l_nil ?_
                          refine e_K (hK3 _ _ _ _ ?_)
                          refine c_ret ?_
                          exact ret1 rfl rfl ⟨congrArg Value.bool (by simp only [JV.plain]; clear E R Rl Rm Bg1; simp_all <;> omega), E⟩
                    · skip
                      refine c_region ?_
                      refine sv (o_mv rfl) rfl ?_
                      refine sv (o_geq rfl rfl) rfl ?_
                      refine sv (o_mv rfl) rfl ?_
                      refine sg rfl (decide_eq_true hge) (o_mv rfl) rfl ?_
                      refine sg rfl (decide_eq_true hge) (o_leq rfl rfl) rfl ?_
                      refine sv (o_pickT (decide_eq_true hge) rfl rfl) rfl ?_
                      refine sv (o_mv rfl) rfl ?_
                      refine sg rfl (decide_eq_true hle) (o_mv rfl) rfl ?_
                      refine sg rfl (decide_eq_true hle) (o_eql rfl rfl) rfl ?_
                      refine sg rfl (decide_eq_true hle) (o_mv rfl) rfl ?_
                      refine sg rfl (decide_eq_false hk1) (o_fa0 fd25_1 rfl) rfl ?_
                      refine sg rfl (decide_eq_false hk1) (o_ld sc4 rfl (Bg1.cell rfl)) rfl ?_
                      refine sg rfl (decide_eq_false hk1) (o_not rfl) rfl ?_
                      refine sg rfl (decide_eq_true hle) (o_pickF (decide_eq_false hk1) rfl rfl) rfl ?_
                      refine sv (o_pickT (decide_eq_true hle) rfl rfl) rfl ?_
                      refine sv (o_mv rfl) rfl ?_
                      refine sg rfl (his) (o_mv rfl) rfl ?_
                      refine sg rfl (his) (o_eql rfl rfl) rfl ?_
                      refine sg rfl (his) (o_mv rfl) rfl ?_
                      refine sg rfl (decide_eq_false hk2) (o_fa0 fd25_2 rfl) rfl ?_
                      refine sg rfl (decide_eq_false hk2) (o_ld sc3 rfl (Bg1.cell rfl)) rfl ?_
                      refine sg rfl (decide_eq_false hk2) (o_eql rfl rfl) rfl ?_
                      refine sg rfl (his) (o_pickF (decide_eq_false hk2) rfl rfl) rfl ?_
                      refine sv (o_pickT (his) rfl rfl) rfl ?_
                      refine sv (o_mv rfl) rfl ?_
                      refine sg rfl (decide_eq_true hnum) (o_mv rfl) rfl ?_
                      refine sg rfl (decide_eq_true hnum) (o_eql rfl rfl) rfl ?_
                      refine sg rfl (decide_eq_true hnum) (o_mv rfl) rfl ?_
                      refine sg rfl (decide_eq_false hk3) (o_fa0 fd25_3 rfl) rfl ?_
                      refine sg rfl (decide_eq_false hk3) (o_ld sc9 rfl (Bg1.cell rfl)) rfl ?_
                      refine sg rfl (decide_eq_false hk3) (o_seq rfl rfl) rfl ?_
                      refine sg rfl (decide_eq_true hnum) (o_pickF (decide_eq_false hk3) rfl rfl) rfl ?_
                      refine sv (o_pickT (decide_eq_true hnum) rfl rfl) rfl ?_
                      refine sv (o_mv rfl) rfl ?_
                      refine sg rfl (decide_eq_true hstr) (o_mv rfl) rfl ?_
                      refine sg rfl (decide_eq_true hstr) (o_eql rfl rfl) rfl ?_
                      refine sg rfl (decide_eq_true hstr) (o_mv rfl) rfl ?_
                      refine sg rfl (decide_eq_false hk4) (o_fa0 fd25_4 rfl) rfl ?_
                      refine sg rfl (decide_eq_false hk4) (o_ld sc22 rfl (Bg1.cell rfl)) rfl ?_
                      refine sg rfl (decide_eq_false hk4) (o_len Tryd.underlying22 rfl) rfl ?_
                      refine sg rfl (decide_eq_false hk4) (o_eql rfl rfl) rfl ?_
                      refine sg rfl (decide_eq_true hstr) (o_pickF (decide_eq_false hk4) rfl rfl) rfl ?_
                      refine sv (o_pickT (decide_eq_true hstr) rfl rfl) rfl ?_
                      refine sv (o_mv rfl) rfl ?_
                      refine sn rfl (fun e_ => absurd ((decide_eq_false hlist).symm.trans e_) (by decide)) rfl ?_
                      refine sn rfl (fun e_ => absurd ((decide_eq_false hlist).symm.trans e_) (by decide)) rfl ?_
                      refine sn rfl (fun e_ => absurd ((decide_eq_false hlist).symm.trans e_) (by decide)) rfl ?_
                      refine snu rfl rfl rfl ?_
                      refine snu rfl rfl rfl ?_
                      refine snu rfl rfl rfl ?_
                      refine snu rfl rfl rfl ?_
                      refine sn rfl (fun e_ => absurd ((decide_eq_false hlist).symm.trans e_) (by decide)) rfl ?_
                      refine sv (o_pickF (decide_eq_false hlist) rfl rfl) rfl ?_
                      refine sv (o_as rfl) rfl ?_
                      refine l_nil ?_
                      refine e_K (hK3 _ _ _ _ ?_)
                      refine c_ret ?_
                      exact ret1 rfl rfl ⟨congrArg Value.bool (by simp only [JV.plain]; clear E R Rl Rm Bg1; simp_all <;> omega), E⟩
                · skip
                  refine c_region ?_
                  refine sv (o_mv rfl) rfl ?_
                  refine sv (o_geq rfl rfl) rfl ?_
                  refine sv (o_mv rfl) rfl ?_
                  refine sg rfl (decide_eq_true hge) (o_mv rfl) rfl ?_
                  refine sg rfl (decide_eq_true hge) (o_leq rfl rfl) rfl ?_
                  refine sv (o_pickT (decide_eq_true hge) rfl rfl) rfl ?_
                  refine sv (o_mv rfl) rfl ?_
                  refine sg rfl (decide_eq_true hle) (o_mv rfl) rfl ?_
                  refine sg rfl (decide_eq_true hle) (o_eql rfl rfl) rfl ?_
                  refine sg rfl (decide_eq_true hle) (o_mv rfl) rfl ?_
                  refine sg rfl (decide_eq_false hk1) (o_fa0 fd25_1 rfl) rfl ?_
                  refine sg rfl (decide_eq_false hk1) (o_ld sc4 rfl (Bg1.cell rfl)) rfl ?_
                  refine sg rfl (decide_eq_false hk1) (o_not rfl) rfl ?_
                  refine sg rfl (decide_eq_true hle) (o_pickF (decide_eq_false hk1) rfl rfl) rfl ?_
                  refine sv (o_pickT (decide_eq_true hle) rfl rfl) rfl ?_
                  refine sv (o_mv rfl) rfl ?_
                  refine sg rfl (his) (o_mv rfl) rfl ?_
                  refine sg rfl (his) (o_eql rfl rfl) rfl ?_
                  refine sg rfl (his) (o_mv rfl) rfl ?_
                  refine sg rfl (decide_eq_false hk2) (o_fa0 fd25_2 rfl) rfl ?_
                  refine sg rfl (decide_eq_false hk2) (o_ld sc3 rfl (Bg1.cell rfl)) rfl ?_
                  refine sg rfl (decide_eq_false hk2) (o_eql rfl rfl) rfl ?_
                  refine sg rfl (his) (o_pickF (decide_eq_false hk2) rfl rfl) rfl ?_
                  refine sv (o_pickT (his) rfl rfl) rfl ?_
                  refine sv (o_mv rfl) rfl ?_
                  refine sg rfl (decide_eq_true hnum) (o_mv rfl) rfl ?_
                  refine sg rfl (decide_eq_true hnum) (o_eql rfl rfl) rfl ?_
                  refine sg rfl (decide_eq_true hnum) (o_mv rfl) rfl ?_
                  refine sg rfl (decide_eq_false hk3) (o_fa0 fd25_3 rfl) rfl ?_
                  refine sg rfl (decide_eq_false hk3) (o_ld sc9 rfl (Bg1.cell rfl)) rfl ?_
                  refine sg rfl (decide_eq_false hk3) (o_seq rfl rfl) rfl ?_
                  refine sg rfl (decide_eq_true hnum) (o_pickF (decide_eq_false hk3) rfl rfl) rfl ?_
                  refine sv (o_pickT (decide_eq_true hnum) rfl rfl) rfl ?_
                  refine sv (o_mv rfl) rfl ?_
                  refine sn rfl (fun e_ => absurd ((decide_eq_false hstr).symm.trans e_) (by decide)) rfl ?_
                  refine sn rfl (fun e_ => absurd ((decide_eq_false hstr).symm.trans e_) (by decide)) rfl ?_
                  refine sn rfl (fun e_ => absurd ((decide_eq_false hstr).symm.trans e_) (by decide)) rfl ?_
                  refine snu rfl rfl rfl ?_
                  refine snu rfl rfl rfl ?_
                  refine snu rfl rfl rfl ?_
                  refine snu rfl rfl rfl ?_
                  refine sn rfl (fun e_ => absurd ((decide_eq_false hstr).symm.trans e_) (by decide)) rfl ?_
                  refine sv (o_pickF (decide_eq_false hstr) rfl rfl) rfl ?_
                  refine sv (o_mv rfl) rfl ?_
                  refine sn rfl (fun e_ => absurd ((rfl).symm.trans e_) (by decide)) rfl ?_
                  refine sn rfl (fun e_ => absurd ((rfl).symm.trans e_) (by decide)) rfl ?_
                  refine sn rfl (fun e_ => absurd ((rfl).symm.trans e_) (by decide)) rfl ?_
                  refine snu rfl rfl rfl ?_
                  refine snu rfl rfl rfl ?_
                  refine snu rfl rfl rfl ?_
                  refine snu rfl rfl rfl ?_
                  refine sn rfl (fun e_ => absurd ((rfl).symm.trans e_) (by decide)) rfl ?_
                  refine sv (o_pickF (rfl) rfl rfl) rfl ?_
                  refine sv (o_as rfl) rfl ?_
                  refine l_nil ?_
                  refine e_K (hK3 _ _ _ _ ?_)
                  refine c_ret ?_
                  exact ret1 rfl rfl ⟨congrArg Value.bool (by simp only [JV.plain]; clear E R Rl Rm Bg1; simp_all <;> omega), E⟩
            · skip
              refine c_region ?_
              refine sv (o_mv rfl) rfl ?_
              refine sv (o_geq rfl rfl) rfl ?_
              refine sv (o_mv rfl) rfl ?_
              refine sg rfl (decide_eq_true hge) (o_mv rfl) rfl ?_
              refine sg rfl (decide_eq_true hge) (o_leq rfl rfl) rfl ?_
              refine sv (o_pickT (decide_eq_true hge) rfl rfl) rfl ?_
              refine sv (o_mv rfl) rfl ?_
              refine sg rfl (decide_eq_true hle) (o_mv rfl) rfl ?_
              refine sg rfl (decide_eq_true hle) (o_eql rfl rfl) rfl ?_
              refine sg rfl (decide_eq_true hle) (o_mv rfl) rfl ?_
              refine sg rfl (decide_eq_false hk1) (o_fa0 fd25_1 rfl) rfl ?_
              refine sg rfl (decide_eq_false hk1) (o_ld sc4 rfl (Bg1.cell rfl)) rfl ?_
              refine sg rfl (decide_eq_false hk1) (o_not rfl) rfl ?_
              refine sg rfl (decide_eq_true hle) (o_pickF (decide_eq_false hk1) rfl rfl) rfl ?_
              refine sv (o_pickT (decide_eq_true hle) rfl rfl) rfl ?_
              refine sv (o_mv rfl) rfl ?_
              refine sg rfl (his) (o_mv rfl) rfl ?_
              refine sg rfl (his) (o_eql rfl rfl) rfl ?_
              refine sg rfl (his) (o_mv rfl) rfl ?_
              refine sg rfl (decide_eq_false hk2) (o_fa0 fd25_2 rfl) rfl ?_
              refine sg rfl (decide_eq_false hk2) (o_ld sc3 rfl (Bg1.cell rfl)) rfl ?_
              refine sg rfl (decide_eq_false hk2) (o_eql rfl rfl) rfl ?_
              refine sg rfl (his) (o_pickF (decide_eq_false hk2) rfl rfl) rfl ?_
              refine sv (o_pickT (his) rfl rfl) rfl ?_
              refine sv (o_mv rfl) rfl ?_
              refine sn rfl (fun e_ => absurd ((decide_eq_false hnum).symm.trans e_) (by decide)) rfl ?_
              refine sn rfl (fun e_ => absurd ((decide_eq_false hnum).symm.trans e_) (by decide)) rfl ?_
              refine sn rfl (fun e_ => absurd ((decide_eq_false hnum).symm.trans e_) (by decide)) rfl ?_
              refine snu rfl rfl rfl ?_
              refine snu rfl rfl rfl ?_
              refine snu rfl rfl rfl ?_
              refine sn rfl (fun e_ => absurd ((decide_eq_false hnum).symm.trans e_) (by decide)) rfl ?_
              refine sv (o_pickF (decide_eq_false hnum) rfl rfl) rfl ?_
              refine sv (o_mv rfl) rfl ?_
              refine sn rfl (fun e_ => absurd ((rfl).symm.trans e_) (by decide)) rfl ?_
              refine sn rfl (fun e_ => absurd ((rfl).symm.trans e_) (by decide)) rfl ?_
              refine sn rfl (fun e_ => absurd ((rfl).symm.trans e_) (by decide)) rfl ?_
              refine snu rfl rfl rfl ?_
              refine snu rfl rfl rfl ?_
              refine snu rfl rfl rfl ?_
              refine snu rfl rfl rfl ?_
              refine sn rfl (fun e_ => absurd ((rfl).symm.trans e_) (by decide)) rfl ?_
              refine sv (o_pickF (rfl) rfl rfl) rfl ?_
              refine sv (o_mv rfl) rfl ?_
              refine sn rfl (fun e_ => absurd ((rfl).symm.trans e_) (by decide)) rfl ?_
              refine sn rfl (fun e_ => absurd ((rfl).symm.trans e_) (by decide)) rfl ?_
              refine sn rfl (fun e_ => absurd ((rfl).symm.trans e_) (by decide)) rfl ?_
              refine snu rfl rfl rfl ?_
              refine snu rfl rfl rfl ?_
              refine snu rfl rfl rfl ?_
              refine snu rfl rfl rfl ?_
              refine sn rfl (fun e_ => absurd ((rfl).symm.trans e_) (by decide)) rfl ?_
              refine sv (o_pickF (rfl) rfl rfl) rfl ?_
              refine sv (o_as rfl) rfl ?_
              refine l_nil ?_
              refine e_K (hK3 _ _ _ _ ?_)
              refine c_ret ?_
              exact ret1 rfl rfl ⟨congrArg Value.bool (by simp only [JV.plain]; clear E R Rl Rm Bg1; simp_all <;> omega), E⟩
        · skip
          refine c_region ?_
          refine sv (o_mv rfl) rfl ?_
          refine sv (o_geq rfl rfl) rfl ?_
          refine sv (o_mv rfl) rfl ?_
          refine sg rfl (decide_eq_true hge) (o_mv rfl) rfl ?_
          refine sg rfl (decide_eq_true hge) (o_leq rfl rfl) rfl ?_
          refine sv (o_pickT (decide_eq_true hge) rfl rfl) rfl ?_
          refine sv (o_mv rfl) rfl ?_
          refine sg rfl (decide_eq_true hle) (o_mv rfl) rfl ?_
          refine sg rfl (decide_eq_true hle) (o_eql rfl rfl) rfl ?_
          refine sg rfl (decide_eq_true hle) (o_mv rfl) rfl ?_
          refine sg rfl (decide_eq_false hk1) (o_fa0 fd25_1 rfl) rfl ?_
          refine sg rfl (decide_eq_false hk1) (o_ld sc4 rfl (Bg1.cell rfl)) rfl ?_
          refine sg rfl (decide_eq_false hk1) (o_not rfl) rfl ?_
          refine sg rfl (decide_eq_true hle) (o_pickF (decide_eq_false hk1) rfl rfl) rfl ?_
          refine sv (o_pickT (decide_eq_true hle) rfl rfl) rfl ?_
          refine sv (o_mv rfl) rfl ?_
          refine sn rfl (fun e_ => absurd ((Bool.eq_false_iff.2 his).symm.trans e_) (by decide)) rfl ?_
          refine sn rfl (fun e_ => absurd ((Bool.eq_false_iff.2 his).symm.trans e_) (by decide)) rfl ?_
          refine sn rfl (fun e_ => absurd ((Bool.eq_false_iff.2 his).symm.trans e_) (by decide)) rfl ?_
          refine snu rfl rfl rfl ?_
          refine snu rfl rfl rfl ?_
          refine snu rfl rfl rfl ?_
          refine sn rfl (fun e_ => absurd ((Bool.eq_false_iff.2 his).symm.trans e_) (by decide)) rfl ?_
          refine sv (o_pickF (Bool.eq_false_iff.2 his) rfl rfl) rfl ?_
          refine sv (o_mv rfl) rfl ?_
          refine sn rfl (fun e_ => absurd ((rfl).symm.trans e_) (by decide)) rfl ?_
          refine sn rfl (fun e_ => absurd ((rfl).symm.trans e_) (by decide)) rfl ?_
          refine sn rfl (fun e_ => absurd ((rfl).symm.trans e_) (by decide)) rfl ?_
          refine snu rfl rfl rfl ?_
          refine snu rfl rfl rfl ?_
          refine snu rfl rfl rfl ?_
          refine sn rfl (fun e_ => absurd ((rfl).symm.trans e_) (by decide)) rfl ?_
          refine sv (o_pickF (rfl) rfl rfl) rfl ?_
          refine sv (o_mv rfl) rfl ?_
          refine sn rfl (fun e_ => absurd ((rfl).symm.trans e_) (by decide)) rfl ?_
          refine sn rfl (fun e_ => absurd ((rfl).symm.trans e_) (by decide)) rfl ?_
          refine sn rfl (fun e_ => absurd ((rfl).symm.trans e_) (by decide)) rfl ?_
          refine snu rfl rfl rfl ?_
          refine snu rfl rfl rfl ?_
          refine snu rfl rfl rfl ?_
          refine snu rfl rfl rfl ?_
          refine sn rfl (fun e_ => absurd ((rfl).symm.trans e_) (by decide)) rfl ?_
          refine sv (o_pickF (rfl) rfl rfl) rfl ?_
          refine sv (o_mv rfl) rfl ?_
          refine sn rfl (fun e_ => absurd ((rfl).symm.trans e_) (by decide)) rfl ?_
          refine sn rfl (fun e_ => absurd ((rfl).symm.trans e_) (by decide)) rfl ?_
          refine sn rfl (fun e_ => absurd ((rfl).symm.trans e_) (by decide)) rfl ?_
          refine snu rfl rfl rfl ?_
          refine snu rfl rfl rfl ?_
          refine snu rfl rfl rfl ?_
          refine snu rfl rfl rfl ?_
          refine sn rfl (fun e_ => absurd ((rfl).symm.trans e_) (by decide)) rfl ?_
          refine sv (o_pickF (rfl) rfl rfl) rfl ?_
          refine sv (o_as rfl) rfl ?_
          refine l_nil ?_
          refine e_K (hK3 _ _ _ _ ?_)
          refine c_ret ?_
          exact ret1 rfl rfl ⟨congrArg Value.bool (by simp only [JV.plain]; clear E R Rl Rm Bg1; simp_all <;> omega), E⟩
    · skip
      refine c_region ?_
      refine sv (o_mv rfl) rfl ?_
      refine sv (o_geq rfl rfl) rfl ?_
      refine sv (o_mv rfl) rfl ?_
      refine sg rfl (decide_eq_true hge) (o_mv rfl) rfl ?_
      refine sg rfl (decide_eq_true hge) (o_leq rfl rfl) rfl ?_
      refine sv (o_pickT (decide_eq_true hge) rfl rfl) rfl ?_
      refine sv (o_mv rfl) rfl ?_
      refine sn rfl (fun e_ => absurd ((decide_eq_false hle).symm.trans e_) (by decide)) rfl ?_
      refine sn rfl (fun e_ => absurd ((decide_eq_false hle).symm.trans e_) (by decide)) rfl ?_
      refine sn rfl (fun e_ => absurd ((decide_eq_false hle).symm.trans e_) (by decide)) rfl ?_
      refine snu rfl rfl rfl ?_
      refine snu rfl rfl rfl ?_
      refine snu rfl rfl rfl ?_
      refine sn rfl (fun e_ => absurd ((decide_eq_false hle).symm.trans e_) (by decide)) rfl ?_
      refine sv (o_pickF (decide_eq_false hle) rfl rfl) rfl ?_
      refine sv (o_mv rfl) rfl ?_
      refine sn rfl (fun e_ => absurd ((rfl).symm.trans e_) (by decide)) rfl ?_
      refine sn rfl (fun e_ => absurd ((rfl).symm.trans e_) (by decide)) rfl ?_
      refine sn rfl (fun e_ => absurd ((rfl).symm.trans e_) (by decide)) rfl ?_
      refine snu rfl rfl rfl ?_
      refine snu rfl rfl rfl ?_
      refine snu rfl rfl rfl ?_
      refine sn rfl (fun e_ => absurd ((rfl).symm.trans e_) (by decide)) rfl ?_
      refine sv (o_pickF (rfl) rfl rfl) rfl ?_
      refine sv (o_mv rfl) rfl ?_
      refine sn rfl (fun e_ => absurd ((rfl).symm.trans e_) (by decide)) rfl ?_
      refine sn rfl (fun e_ => absurd ((rfl).symm.trans e_) (by decide)) rfl ?_
      refine sn rfl (fun e_ => absurd ((rfl).symm.trans e_) (by decide)) rfl ?_
      refine snu rfl rfl rfl ?_
      refine snu rfl rfl rfl ?_
      refine snu rfl rfl rfl ?_
      refine sn rfl (fun e_ => absurd ((rfl).symm.trans e_) (by decide)) rfl ?_
      refine sv (o_pickF (rfl) rfl rfl) rfl ?_
      refine sv (o_mv rfl) rfl ?_
      refine sn rfl (fun e_ => absurd ((rfl).symm.trans e_) (by decide)) rfl ?_
      refine sn rfl (fun e_ => absurd ((rfl).symm.trans e_) (by decide)) rfl ?_
      refine sn rfl (fun e_ => absurd ((rfl).symm.trans e_) (by decide)) rfl ?_
      refine snu rfl rfl rfl ?_
      refine snu rfl rfl rfl ?_
      refine snu rfl rfl rfl ?_
      refine snu rfl rfl rfl ?_
      refine sn rfl (fun e_ => absurd ((rfl).symm.trans e_) (by decide)) rfl ?_
      refine sv (o_pickF (rfl) rfl rfl) rfl ?_
      refine sv (o_mv rfl) rfl ?_
      refine sn rfl (fun e_ => absurd ((rfl).symm.trans e_) (by decide)) rfl ?_
      refine sn rfl (fun e_ => absurd ((rfl).symm.trans e_) (by decide)) rfl ?_
      refine sn rfl (fun e_ => absurd ((rfl).symm.trans e_) (by decide)) rfl ?_
      refine snu rfl rfl rfl ?_
      refine snu rfl rfl rfl ?_
      refine snu rfl rfl rfl ?_
      refine snu rfl rfl rfl ?_
      refine sn rfl (fun e_ => absurd ((rfl).symm.trans e_) (by decide)) rfl ?_
      refine sv (o_pickF (rfl) rfl rfl) rfl ?_
      refine sv (o_as rfl) rfl ?_
      refine l_nil ?_
      refine e_K (hK3 _ _ _ _ ?_)
      refine c_ret ?_
      exact ret1 rfl rfl ⟨congrArg Value.bool (by simp only [JV.plain]; clear E R Rl Rm Bg1; simp_all <;> omega), E⟩
  · skip
    refine c_region ?_
    refine sv (o_mv rfl) rfl ?_
    refine sv (o_geq rfl rfl) rfl ?_
    refine sv (o_mv rfl) rfl ?_
    refine sn rfl (fun e_ => absurd ((decide_eq_false hge).symm.trans e_) (by decide)) rfl ?_
    refine sn rfl (fun e_ => absurd ((decide_eq_false hge).symm.trans e_) (by decide)) rfl ?_
    refine sv (o_pickF (decide_eq_false hge) rfl rfl) rfl ?_
    refine sv (o_mv rfl) rfl ?_
    refine sn rfl (fun e_ => absurd ((rfl).symm.trans e_) (by decide)) rfl ?_
    refine sn rfl (fun e_ => absurd ((rfl).symm.trans e_) (by decide)) rfl ?_
    refine sn rfl (fun e_ => absurd ((rfl).symm.trans e_) (by decide)) rfl ?_
    refine snu rfl rfl rfl ?_
    refine snu rfl rfl rfl ?_
    refine snu rfl rfl rfl ?_
    refine sn rfl (fun e_ => absurd ((rfl).symm.trans e_) (by decide)) rfl ?_
    refine sv (o_pickF (rfl) rfl rfl) rfl ?_
    refine sv (o_mv rfl) rfl ?_
    refine sn rfl (fun e_ => absurd ((rfl).symm.trans e_) (by decide)) rfl ?_
    refine sn rfl (fun e_ => absurd ((rfl).symm.trans e_) (by decide)) rfl ?_
    refine sn rfl (fun e_ => absurd ((rfl).symm.trans e_) (by decide)) rfl ?_
    refine snu rfl rfl rfl ?_
    refine snu rfl rfl rfl ?_
    refine snu rfl rfl rfl ?_
    refine sn rfl (fun e_ => absurd ((rfl).symm.trans e_) (by decide)) rfl ?_
    refine sv (o_pickF (rfl) rfl rfl) rfl ?_
    refine sv (o_mv rfl) rfl ?_
    refine sn rfl (fun e_ => absurd ((rfl).symm.trans e_) (by decide)) rfl ?_
    refine sn rfl (fun e_ => absurd ((rfl).symm.trans e_) (by decide)) rfl ?_
    refine sn rfl (fun e_ => absurd ((rfl).symm.trans e_) (by decide)) rfl ?_
    refine snu rfl rfl rfl ?_
    refine snu rfl rfl rfl ?_
    refine snu rfl rfl rfl ?_
    refine sn rfl (fun e_ => absurd ((rfl).symm.trans e_) (by decide)) rfl ?_
    refine sv (o_pickF (rfl) rfl rfl) rfl ?_
    refine sv (o_mv rfl) rfl ?_
    refine sn rfl (fun e_ => absurd ((rfl).symm.trans e_) (by decide)) rfl ?_
    refine sn rfl (fun e_ => absurd ((rfl).symm.trans e_) (by decide)) rfl ?_
    refine sn rfl (fun e_ => absurd ((rfl).symm.trans e_) (by decide)) rfl ?_
    refine snu rfl rfl rfl ?_
    refine snu rfl rfl rfl ?_
    refine snu rfl rfl rfl ?_
    refine snu rfl rfl rfl ?_
    refine sn rfl (fun e_ => absurd ((rfl).symm.trans e_) (by decide)) rfl ?_
    refine sv (o_pickF (rfl) rfl rfl) rfl ?_
    refine sv (o_mv rfl) rfl ?_
    refine sn rfl (fun e_ => absurd ((rfl).symm.trans e_) (by decide)) rfl ?_
    refine sn rfl (fun e_ => absurd ((rfl).symm.trans e_) (by decide)) rfl ?_
    refine sn rfl (fun e_ => absurd ((rfl).symm.trans e_) (by decide)) rfl ?_
    refine snu rfl rfl rfl ?_
    refine snu rfl rfl rfl ?_
    refine snu rfl rfl rfl ?_
    refine snu rfl rfl rfl ?_
    refine sn rfl (fun e_ => absurd ((rfl).symm.trans e_) (by decide)) rfl ?_
    refine sv (o_pickF (rfl) rfl rfl) rfl ?_
    refine sv (o_as rfl) rfl ?_
    refine l_nil ?_
    refine e_K (hK3 _ _ _ _ ?_)
    refine c_ret ?_
    exact ret1 rfl rfl ⟨congrArg Value.bool (by simp only [JV.plain]; clear E R Rl Rm Bg1; simp_all <;> omega), E⟩

theorem c_fmtb0 (w : World) (x : Bool) : Calls Tryd.prog 73 [.bool x].toArray w (Ret fun u w' => u = S (if x then JV.tTrue else JV.tFalse) ∧ Mod [] w w') := by
  refine enter Tryd.func73 rfl rfl rfl (l := [(0, _)]) ⟨rfl, trivial⟩ ?_
  have E := Mod.refl [] w
  refine c_seq fun K1 hK1 => ?_
  refine c_region ?_
  refine sv (o_as rfl) rfl ?_
  refine l_nil ?_
  refine e_K (hK1 _ _ _ _ ?_)
  refine c_seq fun K2 hK2 => ?_
  refine c_seq fun K3 hK3 => ?_
  refine c_region ?_
  refine sv (o_mv rfl) rfl ?_
  refine l_nil ?_
  refine e_K (hK3 _ _ _ _ ?_)
  refine c_cond rfl (fun h3 => ?_) (fun h3 => ?_)
  · skip
    refine c_seq fun K4 hK4 => ?_
    refine c_region ?_
    refine sv (o_as rfl) rfl ?_
    refine l_nil ?_
    refine e_K (hK4 _ _ _ _ ?_)
    refine c_ret ?_
    refine e_then (by simp) ?_
    exact ret1 rfl rfl ⟨by rw [h3]; rfl, E⟩
  · skip
    refine c_skip ?_
    refine e_K (hK2 _ _ _ _ ?_)
    refine c_seq fun K5 hK5 => ?_
    refine c_region ?_
    refine sv (o_as rfl) rfl ?_
    refine l_nil ?_
    refine e_K (hK5 _ _ _ _ ?_)
    refine c_ret ?_
    exact ret1 rfl rfl ⟨by rw [h3]; rfl, E⟩

theorem c_fmtb (w : World) (x : Bool) : Calls Tryd.prog 45 [.bool x].toArray w (Ret fun u w' => u = S (if x then JV.tTrue else JV.tFalse) ∧ Mod [] w w') := by
  refine enter Tryd.func45 rfl rfl rfl (l := [(0, _)]) ⟨rfl, trivial⟩ ?_
  have E := Mod.refl [] w
  refine c_seq fun K1 hK1 => ?_
  refine c_region ?_
  refine sv (o_as rfl) rfl ?_
  refine l_nil ?_
  refine e_K (hK1 _ _ _ _ ?_)
  refine c_seq fun K2 hK2 => ?_
  refine c_region ?_
  refine sv (o_mv rfl) rfl ?_
  refine sc (o_call ent73 rfl) (c_fmtb0 _ _) rfl fun v_ w1 h_ => ?_
  obtain ⟨rfl, E_⟩ := h_
  replace E := E.then E_
  refine sv (o_as rfl) rfl ?_
  refine l_nil ?_
  refine e_K (hK2 _ _ _ _ ?_)
  refine c_ret ?_
  exact ret1 rfl rfl ⟨rfl, E⟩

theorem c_fail (w : World) (e : Int) : Calls Tryd.prog 43 [.int .i64 e].toArray w (WrF 66 e w) := by
  refine enter Tryd.func43 rfl rfl rfl (l := [(0, _)]) ⟨rfl, trivial⟩ ?_
  refine c_region ?_
  refine sv (o_mv rfl) rfl ?_
  refine sv (o_build (cs := [_]) pl66 zv66 rfl rfl) rfl ?_
  refine sv (o_mki Tryd.underlying66 rfl rfl) rfl ?_
  refine s_panic rfl ?_
  exact endp ⟨rfl, rfl⟩

theorem c_wput (w : World) (g : Nat) (u : Value) (b : Str) (HB : WrB w g 47 u b) (t : Str) (ht : t.length ≤ 1000000) : Calls Tryd.prog 44 [.pointer (some ⟨g, 0, none⟩), S t].toArray w (WrP w g 47 66 u (lng (b ++ t))) := by
  refine enter Tryd.func44 rfl rfl rfl (l := [(0, _), (1, _)]) ⟨rfl, rfl, trivial⟩ ?_
  refine c_seq fun K1 hK1 => ?_
  have H := WrT.init HB
  refine c_region ?_
  refine sv (o_mv rfl) rfl ?_
  refine sv (o_mv rfl) rfl ?_
  refine sv (o_nilc rfl) rfl ?_
  refine sv (o_fa0 fd47_0 rfl) rfl ?_
  refine sv (o_ld sc45 rfl (H.wb.blk.cell rfl)) rfl ?_
  refine sv (o_mv rfl) rfl ?_
  refine s_append sl45 rfl rfl H.wb.own (Src.str Tryd.underlying9 t) (by decide) (by have := H.wb.len; omega) (by have := H.wb.len; omega) rfl fun u1 w1 AA => ?_
  have O1 : OwB w1 u1 (b ++ t) := AA.own.same (by simp) (by simp [cells_b8, B8])
  obtain ⟨ad1, c1, rfl, hc1, hc2⟩ := O1.form
  have B1 := H.wb.blk.mod AA.mod (fun hx => H.wb.ne _ hx rfl)
  refine sv (o_nilc rfl) rfl ?_
  refine sv (o_fa0 fd47_0 rfl) rfl ?_
  refine s_st sc45 B1 rfl rfl rfl (by simp) fun w2 PX => ?_
  have BX := PX.blk
  have MX := H.app AA PX.mod
  refine l_nil ?_
  refine e_K (hK1 _ _ _ _ ?_)
  refine c_seq fun K2 hK2 => ?_
  refine c_region ?_
  refine sv (o_mv rfl) rfl ?_
  refine sv (o_nilc rfl) rfl ?_
  refine sv (o_fa0 fd47_0 rfl) rfl ?_
  refine sv (o_ld sc45 rfl (BX.cell rfl)) rfl ?_
  refine sv (o_len Tryd.underlying45 rfl) rfl ?_
  refine sv (o_gtr rfl rfl) rfl ?_
  refine l_nil ?_
  refine e_K (hK2 _ _ _ _ ?_)
  refine c_if rfl (fun h18 => ?_) (fun h18 => ?_)
  · skip
    refine c_region ?_
    refine scp (o_call ent43 rfl) (c_fail _ 3) rfl (fun w_ h_ => h_.elim) (fun c_ w3 h_ => ?_) fun v_ w3 h_ => ?_
    · skip
      obtain ⟨rfl, rfl⟩ := h_
      exact endp ⟨3, if_pos (by omega), by decide, rfl, MX⟩
    · exact h_.elim
  · skip
    refine c_skip ?_
    exact end0R rfl ((H.app' AA O1 PX.mod BX (by omega)).fin (if_neg (by omega)))

theorem c_wtext (w : World) (g : Nat) (u : Value) (b : Str) (HB : WrB w g 47 u b) (s : Str) : Calls Tryd.prog 47 [.pointer (some ⟨g, 0, none⟩), S s].toArray w (WrP w g 47 66 u (txtW b s)) := by
  refine enter Tryd.func47 rfl rfl rfl (l := [(0, _), (1, _)]) ⟨rfl, rfl, trivial⟩ ?_
  refine c_seq fun K1 hK1 => ?_
  refine c_seq fun K2 hK2 => ?_
  have H := WrT.init HB
  refine c_region ?_
  refine sv (o_mv rfl) rfl ?_
  refine sv (o_slen Tryd.underlying9 rfl) rfl ?_
  refine sv (o_gtr rfl rfl) rfl ?_
  refine l_nil ?_
  refine e_K (hK2 _ _ _ _ ?_)
  refine c_if rfl (fun h8 => ?_) (fun h8 => ?_)
  · skip
    refine c_region ?_
    refine scp (o_call ent43 rfl) (c_fail _ 3) rfl (fun w_ h_ => h_.elim) (fun c_ w1 h_ => ?_) fun v_ w1 h_ => ?_
    · skip
      obtain ⟨rfl, rfl⟩ := h_
      refine e_then (by simp) ?_
      exact endp (H.fail (if_pos (by omega)))
    · exact h_.elim
  · skip
    refine c_skip ?_
    refine e_K (hK1 _ _ _ _ ?_)
    refine c_seq fun K3 hK3 => ?_
    refine c_region ?_
    refine sv (o_mv rfl) rfl ?_
    refine sc (o_call ent75 rfl) (c_qput _ s (by omega)) rfl fun v_ w2 h_ => ?_
    obtain ⟨rfl, E_⟩ := h_
    replace H := H.mod0 E_
    refine sv (o_mv rfl) rfl ?_
    refine sv (o_ext rfl rfl) rfl ?_
    refine sv (o_ext rfl rfl) rfl ?_
    refine sv (o_as rfl) rfl ?_
    refine sv (o_as rfl) rfl ?_
    refine l_nil ?_
    refine e_K (hK3 _ _ _ _ ?_)
    refine c_seq fun K4 hK4 => ?_
    refine c_seq fun K5 hK5 => ?_
    refine c_region ?_
    refine sv (o_mv rfl) rfl ?_
    refine sv (o_not rfl) rfl ?_
    refine l_nil ?_
    refine e_K (hK5 _ _ _ _ ?_)
    refine c_cond rfl (fun h16 => ?_) (fun h16 => ?_)
    · skip
      have hv : validR s = false := by simpa using h16
      refine c_region ?_
      refine scp (o_call ent43 rfl) (c_fail _ 1) rfl (fun w_ h_ => h_.elim) (fun c_ w3 h_ => ?_) fun v_ w3 h_ => ?_
      · skip
        obtain ⟨rfl, rfl⟩ := h_
        refine e_then (by simp) ?_
        exact endp (H.fail (by rw [txtW, if_neg (by omega), hv]; rfl))
      · exact h_.elim
    · skip
      have hv : validR s = true := by simpa using h16
      refine c_skip ?_
      refine e_K (hK4 _ _ _ _ ?_)
      refine c_region ?_
      refine sv (o_mv rfl) rfl ?_
      refine sv (o_mv rfl) rfl ?_
      have hql := escs_len s
      have hqp : (putQ s).length = (escs s).length + 2 := by simp [putQ]
      rw [hv, if_pos rfl]
      refine scp (o_call ent44 rfl) (c_wput _ _ _ _ H.wb (putQ s) (by omega)) rfl (fun w_ h_ => h_.elim) (fun c_ w4 h_ => ?_) fun v_ w4 h_ => ?_
      · skip
        have hp := H.panic (r := txtW b s) h_ (fun e he => by rw [txtW, if_neg (by omega), hv]; exact he)
        exact endp hp
      obtain ⟨u1, b1, hb1, H1, hm1, ho1⟩ := H.ret h_
      replace H := H1
      refine l_nil ?_
      exact end0R rfl (H.fin (r := txtW b s) (by rw [txtW, if_neg (by omega), hv]; exact hb1))

theorem c_wcomma (w : World) (g : Nat) (u : Value) (b : Str) (HB : WrB w g 47 u b) (k : Nat) : Calls Tryd.prog 48 [.pointer (some ⟨g, 0, none⟩), .int .i64 (k : Int)].toArray w (WrP w g 47 66 u (if k = 0 then .ok b else lng (b ++ [44]))) := by
  refine enter Tryd.func48 rfl rfl rfl (l := [(0, _), (1, _)]) ⟨rfl, rfl, trivial⟩ ?_
  refine c_seq fun K1 hK1 => ?_
  have H := WrT.init HB
  refine c_region ?_
  refine sv (o_mv rfl) rfl ?_
  refine sv (o_gtr rfl rfl) rfl ?_
  refine l_nil ?_
  refine e_K (hK1 _ _ _ _ ?_)
  refine c_if rfl (fun h5 => ?_) (fun h5 => ?_)
  · skip
    skip
    refine c_region ?_
    refine sv (o_mv rfl) rfl ?_
    refine scp (o_call ent44 rfl) (c_wput _ _ _ _ H.wb [44] (by simp)) rfl (fun w_ h_ => h_.elim) (fun c_ w1 h_ => ?_) fun v_ w1 h_ => ?_
    · skip
      have hp := H.panic (r := if k = 0 then .ok b else lng (b ++ [44])) h_ (fun e he => by rw [if_neg (by omega)]; exact he)
      exact endp hp
    obtain ⟨u1, b1, hb1, H1, hm1, ho1⟩ := H.ret h_
    replace H := H1
    refine l_nil ?_
    exact end0R rfl (H.fin (by rw [if_neg (by omega)]; exact hb1))
  · skip
    skip
    refine c_skip ?_
    exact end0R rfl (H.fin (by rw [if_pos (by omega)]))
end Go.Proofs.YtkhbnhdlelmbnaaDoor.V
