/-
  A part of the proof: the writing of lists and maps, step by step. No condition of its own.
-/
import Derived.Test.YtkhbnhdlelmbnaaGreatDoorM10
import Derived.Test.YtkhbnhdlelmbnaaGreatDoorM7
set_option linter.unusedVariables false
set_option linter.unusedSimpArgs false
set_option maxRecDepth 10000
namespace Go.Proofs.YtkhbnhdlelmbnaaGreatDoor.V
open Go Go.Proofs
theorem ent131 : Ent Tryz.prog 131 := Ent.of Tryz.func131 (by kernel_rfl) (by kernel_rfl)
theorem pl124 : plB Tryz.prog 124 [(0, 1)] = true := by kernel_rfl
theorem zv124 : zvB Tryz.prog 124 ([.int .i64 0]) := by unfold zvB; kernel_rfl
theorem fd99_0 : fdB Tryz.prog 99 0 0 1 = true := by kernel_rfl
theorem sc53 : scB Tryz.prog 53 = true := by kernel_rfl
theorem ent107 : Ent Tryz.prog 107 := Ent.of Tryz.func107 (by kernel_rfl) (by kernel_rfl)
theorem ent132 : Ent Tryz.prog 132 := Ent.of Tryz.func132 (by kernel_rfl) (by kernel_rfl)
theorem ent108 : Ent Tryz.prog 108 := Ent.of Tryz.func108 (by kernel_rfl) (by kernel_rfl)
theorem c_plain (w : World) (v : JV) (us : List Value) (R : Reps [] w v.D us) : Calls Tryz.prog 106 [.agg us.toArray].toArray w (Ret fun u w' => u = .bool v.plain ∧ Mod [] w w') := by
 refine enter Tryz.func106 rfl rfl rfl (l := [(0, _)]) ⟨rfl, trivial⟩ ?_
 have E := Mod.refl [] w
 obtain ⟨al, cl, am, cm, rfl, Rl, Rm⟩ := JV.cells_ R
 refine Cq fun K1 hK1 => Cr (s_box rfl rfl rfl fun g1 w1 N1 => ?_)
 have Lg1_E := N1.le E
 replace E := E.then N1.mod
 have Bg1 := N1.blk
 refine Za rfl (Ln (e_K (hK1 _ _ _ _ (Cq fun K2 hK2 => Cr (Sv (oA0 fd25_0 rfl) (Sv (oL sc3 rfl (Bg1.cell rfl)) (Za rfl (Ln (e_K (hK2 _ _ _ _ (Cq fun K3 hK3 => ?_)))))))))))
 by_cases hge : v.kind ≥ 0
 ·by_cases hle : v.kind ≤ 5
  ·by_cases hk1 : v.kind = 1
   ·by_cases hnum : v.num = 0
    ·by_cases hstr : v.str = []
     ·by_cases hlist : (v.list.length : Int) = 0
      ·by_cases hmap : (v.map.length : Int) = 0
       ·refine Cr (Zm rfl (Sv (o_geq rfl rfl) (Zm rfl (Sg rfl (dT hge) (oM rfl) (Sg rfl (dT hge) (o_leq rfl rfl) (Sv (oT (dT hge) rfl rfl) (Zm rfl (Sg rfl (dT hle) (oM rfl) (Sg rfl (dT hle) (oE rfl rfl) (Sg rfl (dT hle) (oM rfl) (Sx rfl (dT hk1) (Sx rfl (dT hk1) (Sx rfl (dT hk1) ?_)))))))))))))
        refine Sg rfl (dT hle) (oT (dT hk1) rfl rfl) (Sv (oT (dT hle) rfl rfl) (Zm rfl (Sg rfl rfl (oM rfl) (Sg rfl rfl (oE rfl rfl) (Sg rfl rfl (oM rfl) (Sg rfl (dF (by omega)) (oA0 fd25_2 rfl) (Sg rfl (dF (by omega)) (oL sc3 rfl (Bg1.cell rfl)) (Sg rfl (dF (by omega)) (oE rfl rfl) (Sg rfl rfl (oF (dF (by omega)) rfl rfl) (Sv (oT rfl rfl rfl) (Zm rfl (Sg rfl (dT hnum) (oM rfl) (Sg rfl (dT hnum) (oE rfl rfl) ?_)))))))))))))
        refine Sg rfl (dT hnum) (oM rfl) (Sg rfl (dF (by omega)) (oA0 fd25_3 rfl) (Sg rfl (dF (by omega)) (oL sc9 rfl (Bg1.cell rfl)) (Sg rfl (dF (by omega)) (o_seq rfl rfl) (Sg rfl (dT hnum) (oF (dF (by omega)) rfl rfl) (Sv (oT (dT hnum) rfl rfl) (Zm rfl (Sg rfl (dT hstr) (oM rfl) (Sg rfl (dT hstr) (oE rfl rfl) (Sg rfl (dT hstr) (oM rfl) (Sg rfl (dF (by omega)) (oA0 fd25_4 rfl) (Sg rfl (dF (by omega)) (oL sc22 rfl (Bg1.cell rfl)) (Sg rfl (dF (by omega)) (o_len Tryz.underlying22 rfl) (Sg rfl (dF (by omega)) (oE rfl rfl) ?_)))))))))))))
        refine Sg rfl (dT hstr) (oF (dF (by omega)) rfl rfl) (Sv (oT (dT hstr) rfl rfl) (Zm rfl (Sg rfl (dT hlist) (oM rfl) (Sg rfl (dT hlist) (oE rfl rfl) (Sg rfl (dT hlist) (oM rfl) (Sg rfl (dF (by omega)) (oA0 fd25_5 rfl) (Sg rfl (dF (by omega)) (oL sc23 rfl (Bg1.cell rfl)) (Sg rfl (dF (by omega)) (o_len Tryz.underlying23 rfl) (Sg rfl (dF (by omega)) (oE rfl rfl) (Sg rfl (dT hlist) (oF (dF (by omega)) rfl rfl) (Sv (oT (dT hlist) rfl rfl) (Za rfl (Ln ?_)))))))))))))
        exact e_K (hK3 _ _ _ _ (cR (ret1 rfl rfl ⟨congrArg Value.bool (by simp only [JV.plain]; clear E R Rl Rm Bg1; simp_all <;> omega), E⟩)))
       ·refine Cr (Zm rfl (Sv (o_geq rfl rfl) (Zm rfl (Sg rfl (dT hge) (oM rfl) (Sg rfl (dT hge) (o_leq rfl rfl) (Sv (oT (dT hge) rfl rfl) (Zm rfl (Sg rfl (dT hle) (oM rfl) (Sg rfl (dT hle) (oE rfl rfl) (Sg rfl (dT hle) (oM rfl) (Sx rfl (dT hk1) (Sx rfl (dT hk1) (Sx rfl (dT hk1) ?_)))))))))))))
        refine Sg rfl (dT hle) (oT (dT hk1) rfl rfl) (Sv (oT (dT hle) rfl rfl) (Zm rfl (Sg rfl rfl (oM rfl) (Sg rfl rfl (oE rfl rfl) (Sg rfl rfl (oM rfl) (Sg rfl (dF (by omega)) (oA0 fd25_2 rfl) (Sg rfl (dF (by omega)) (oL sc3 rfl (Bg1.cell rfl)) (Sg rfl (dF (by omega)) (oE rfl rfl) (Sg rfl rfl (oF (dF (by omega)) rfl rfl) (Sv (oT rfl rfl rfl) (Zm rfl (Sg rfl (dT hnum) (oM rfl) (Sg rfl (dT hnum) (oE rfl rfl) ?_)))))))))))))
        refine Sg rfl (dT hnum) (oM rfl) (Sg rfl (dF (by omega)) (oA0 fd25_3 rfl) (Sg rfl (dF (by omega)) (oL sc9 rfl (Bg1.cell rfl)) (Sg rfl (dF (by omega)) (o_seq rfl rfl) (Sg rfl (dT hnum) (oF (dF (by omega)) rfl rfl) (Sv (oT (dT hnum) rfl rfl) (Zm rfl (Sg rfl (dT hstr) (oM rfl) (Sg rfl (dT hstr) (oE rfl rfl) (Sg rfl (dT hstr) (oM rfl) (Sg rfl (dF (by omega)) (oA0 fd25_4 rfl) (Sg rfl (dF (by omega)) (oL sc22 rfl (Bg1.cell rfl)) (Sg rfl (dF (by omega)) (o_len Tryz.underlying22 rfl) (Sg rfl (dF (by omega)) (oE rfl rfl) ?_)))))))))))))
        refine Sg rfl (dT hstr) (oF (dF (by omega)) rfl rfl) (Sv (oT (dT hstr) rfl rfl) (Zm rfl (Sg rfl (dT hlist) (oM rfl) (Sg rfl (dT hlist) (oE rfl rfl) (Sg rfl (dT hlist) (oM rfl) (Sg rfl (dF (by omega)) (oA0 fd25_5 rfl) (Sg rfl (dF (by omega)) (oL sc23 rfl (Bg1.cell rfl)) (Sg rfl (dF (by omega)) (o_len Tryz.underlying23 rfl) (Sg rfl (dF (by omega)) (oE rfl rfl) (Sg rfl (dT hlist) (oF (dF (by omega)) rfl rfl) (Sv (oT (dT hlist) rfl rfl) (Za rfl (Ln ?_)))))))))))))
        exact e_K (hK3 _ _ _ _ (cR (ret1 rfl rfl ⟨congrArg Value.bool (by simp only [JV.plain]; clear E R Rl Rm Bg1; simp_all <;> omega), E⟩)))
      ·refine Cr (Zm rfl (Sv (o_geq rfl rfl) (Zm rfl (Sg rfl (dT hge) (oM rfl) (Sg rfl (dT hge) (o_leq rfl rfl) (Sv (oT (dT hge) rfl rfl) (Zm rfl (Sg rfl (dT hle) (oM rfl) (Sg rfl (dT hle) (oE rfl rfl) (Sg rfl (dT hle) (oM rfl) (Sx rfl (dT hk1) (Sx rfl (dT hk1) (Sx rfl (dT hk1) ?_)))))))))))))
       refine Sg rfl (dT hle) (oT (dT hk1) rfl rfl) (Sv (oT (dT hle) rfl rfl) (Zm rfl (Sg rfl rfl (oM rfl) (Sg rfl rfl (oE rfl rfl) (Sg rfl rfl (oM rfl) (Sg rfl (dF (by omega)) (oA0 fd25_2 rfl) (Sg rfl (dF (by omega)) (oL sc3 rfl (Bg1.cell rfl)) (Sg rfl (dF (by omega)) (oE rfl rfl) (Sg rfl rfl (oF (dF (by omega)) rfl rfl) (Sv (oT rfl rfl rfl) (Zm rfl (Sg rfl (dT hnum) (oM rfl) (Sg rfl (dT hnum) (oE rfl rfl) ?_)))))))))))))
       refine Sg rfl (dT hnum) (oM rfl) (Sg rfl (dF (by omega)) (oA0 fd25_3 rfl) (Sg rfl (dF (by omega)) (oL sc9 rfl (Bg1.cell rfl)) (Sg rfl (dF (by omega)) (o_seq rfl rfl) (Sg rfl (dT hnum) (oF (dF (by omega)) rfl rfl) (Sv (oT (dT hnum) rfl rfl) (Zm rfl (Sg rfl (dT hstr) (oM rfl) (Sg rfl (dT hstr) (oE rfl rfl) (Sg rfl (dT hstr) (oM rfl) (Sg rfl (dF (by omega)) (oA0 fd25_4 rfl) (Sg rfl (dF (by omega)) (oL sc22 rfl (Bg1.cell rfl)) (Sg rfl (dF (by omega)) (o_len Tryz.underlying22 rfl) (Sg rfl (dF (by omega)) (oE rfl rfl) ?_)))))))))))))
       refine Sg rfl (dT hstr) (oF (dF (by omega)) rfl rfl) (Sv (oT (dT hstr) rfl rfl) (Zm rfl (Sx rfl (dF hlist) (Sx rfl (dF hlist) (Sx rfl (dF hlist) (snu rfl rfl rfl (snu rfl rfl rfl (snu rfl rfl rfl (snu rfl rfl rfl (Sx rfl (dF hlist) (Sv (oF (dF hlist) rfl rfl) (Za rfl (Ln ?_)))))))))))))
       exact e_K (hK3 _ _ _ _ (cR (ret1 rfl rfl ⟨congrArg Value.bool (by simp only [JV.plain]; clear E R Rl Rm Bg1; simp_all <;> omega), E⟩)))
     ·refine Cr (Zm rfl (Sv (o_geq rfl rfl) (Zm rfl (Sg rfl (dT hge) (oM rfl) (Sg rfl (dT hge) (o_leq rfl rfl) (Sv (oT (dT hge) rfl rfl) (Zm rfl (Sg rfl (dT hle) (oM rfl) (Sg rfl (dT hle) (oE rfl rfl) (Sg rfl (dT hle) (oM rfl) (Sx rfl (dT hk1) (Sx rfl (dT hk1) (Sx rfl (dT hk1) ?_)))))))))))))
      refine Sg rfl (dT hle) (oT (dT hk1) rfl rfl) (Sv (oT (dT hle) rfl rfl) (Zm rfl (Sg rfl rfl (oM rfl) (Sg rfl rfl (oE rfl rfl) (Sg rfl rfl (oM rfl) (Sg rfl (dF (by omega)) (oA0 fd25_2 rfl) (Sg rfl (dF (by omega)) (oL sc3 rfl (Bg1.cell rfl)) (Sg rfl (dF (by omega)) (oE rfl rfl) (Sg rfl rfl (oF (dF (by omega)) rfl rfl) (Sv (oT rfl rfl rfl) (Zm rfl (Sg rfl (dT hnum) (oM rfl) (Sg rfl (dT hnum) (oE rfl rfl) ?_)))))))))))))
      refine Sg rfl (dT hnum) (oM rfl) (Sg rfl (dF (by omega)) (oA0 fd25_3 rfl) (Sg rfl (dF (by omega)) (oL sc9 rfl (Bg1.cell rfl)) (Sg rfl (dF (by omega)) (o_seq rfl rfl) (Sg rfl (dT hnum) (oF (dF (by omega)) rfl rfl) (Sv (oT (dT hnum) rfl rfl) (Zm rfl (Sx rfl (dF hstr) (Sx rfl (dF hstr) (Sx rfl (dF hstr) (snu rfl rfl rfl (snu rfl rfl rfl (snu rfl rfl rfl (snu rfl rfl rfl ?_)))))))))))))
      refine Sx rfl (dF hstr) (Sv (oF (dF hstr) rfl rfl) (Zm rfl (Sx rfl rfl (Sx rfl rfl (Sx rfl rfl (snu rfl rfl rfl (snu rfl rfl rfl (snu rfl rfl rfl (snu rfl rfl rfl (Sx rfl rfl (Sv (oF rfl rfl rfl) (Za rfl (Ln ?_)))))))))))))
      exact e_K (hK3 _ _ _ _ (cR (ret1 rfl rfl ⟨congrArg Value.bool (by simp only [JV.plain]; clear E R Rl Rm Bg1; simp_all <;> omega), E⟩)))
    ·refine Cr (Zm rfl (Sv (o_geq rfl rfl) (Zm rfl (Sg rfl (dT hge) (oM rfl) (Sg rfl (dT hge) (o_leq rfl rfl) (Sv (oT (dT hge) rfl rfl) (Zm rfl (Sg rfl (dT hle) (oM rfl) (Sg rfl (dT hle) (oE rfl rfl) (Sg rfl (dT hle) (oM rfl) (Sx rfl (dT hk1) (Sx rfl (dT hk1) (Sx rfl (dT hk1) ?_)))))))))))))
     refine Sg rfl (dT hle) (oT (dT hk1) rfl rfl) (Sv (oT (dT hle) rfl rfl) (Zm rfl (Sg rfl rfl (oM rfl) (Sg rfl rfl (oE rfl rfl) (Sg rfl rfl (oM rfl) (Sg rfl (dF (by omega)) (oA0 fd25_2 rfl) (Sg rfl (dF (by omega)) (oL sc3 rfl (Bg1.cell rfl)) (Sg rfl (dF (by omega)) (oE rfl rfl) (Sg rfl rfl (oF (dF (by omega)) rfl rfl) (Sv (oT rfl rfl rfl) (Zm rfl (Sx rfl (dF hnum) (Sx rfl (dF hnum) ?_)))))))))))))
     refine Sx rfl (dF hnum) (snu rfl rfl rfl (snu rfl rfl rfl (snu rfl rfl rfl (Sx rfl (dF hnum) (Sv (oF (dF hnum) rfl rfl) (Zm rfl (Sx rfl rfl (Sx rfl rfl (Sx rfl rfl (snu rfl rfl rfl (snu rfl rfl rfl (snu rfl rfl rfl (snu rfl rfl rfl ?_)))))))))))))
     refine Sx rfl rfl (Sv (oF rfl rfl rfl) (Zm rfl (Sx rfl rfl (Sx rfl rfl (Sx rfl rfl (snu rfl rfl rfl (snu rfl rfl rfl (snu rfl rfl rfl (snu rfl rfl rfl (Sx rfl rfl (Sv (oF rfl rfl rfl) (Za rfl (Ln ?_)))))))))))))
     exact e_K (hK3 _ _ _ _ (cR (ret1 rfl rfl ⟨congrArg Value.bool (by simp only [JV.plain]; clear E R Rl Rm Bg1; simp_all <;> omega), E⟩)))
   ·by_cases his : (!v.is) = true
    ·by_cases hk2 : v.kind = 2
     ·by_cases hstr : v.str = []
      ·by_cases hlist : (v.list.length : Int) = 0
       ·by_cases hmap : (v.map.length : Int) = 0
        ·refine Cr (Zm rfl (Sv (o_geq rfl rfl) (Zm rfl (Sg rfl (dT hge) (oM rfl) (Sg rfl (dT hge) (o_leq rfl rfl) (Sv (oT (dT hge) rfl rfl) (Zm rfl (Sg rfl (dT hle) (oM rfl) (Sg rfl (dT hle) (oE rfl rfl) (Sg rfl (dT hle) (oM rfl) (Sg rfl (dF hk1) (oA0 fd25_1 rfl) (Sg rfl (dF hk1) (oL sc4 rfl (Bg1.cell rfl)) (Sg rfl (dF hk1) (o_not rfl) ?_)))))))))))))
         refine Sg rfl (dT hle) (oF (dF hk1) rfl rfl) (Sv (oT (dT hle) rfl rfl) (Zm rfl (Sg rfl his (oM rfl) (Sg rfl his (oE rfl rfl) (Sg rfl his (oM rfl) (Sx rfl (dT hk2) (Sx rfl (dT hk2) (Sx rfl (dT hk2) (Sg rfl his (oT (dT hk2) rfl rfl) (Sv (oT his rfl rfl) (Zm rfl (Sg rfl rfl (oM rfl) (Sg rfl rfl (oE rfl rfl) ?_)))))))))))))
         refine Sg rfl rfl (oM rfl) (Sg rfl (dF (by omega)) (oA0 fd25_3 rfl) (Sg rfl (dF (by omega)) (oL sc9 rfl (Bg1.cell rfl)) (Sg rfl (dF (by omega)) (o_seq rfl rfl) (Sg rfl rfl (oF (dF (by omega)) rfl rfl) (Sv (oT rfl rfl rfl) (Zm rfl (Sg rfl (dT hstr) (oM rfl) (Sg rfl (dT hstr) (oE rfl rfl) (Sg rfl (dT hstr) (oM rfl) (Sg rfl (dF (by omega)) (oA0 fd25_4 rfl) (Sg rfl (dF (by omega)) (oL sc22 rfl (Bg1.cell rfl)) (Sg rfl (dF (by omega)) (o_len Tryz.underlying22 rfl) (Sg rfl (dF (by omega)) (oE rfl rfl) ?_)))))))))))))
         refine Sg rfl (dT hstr) (oF (dF (by omega)) rfl rfl) (Sv (oT (dT hstr) rfl rfl) (Zm rfl (Sg rfl (dT hlist) (oM rfl) (Sg rfl (dT hlist) (oE rfl rfl) (Sg rfl (dT hlist) (oM rfl) (Sg rfl (dF (by omega)) (oA0 fd25_5 rfl) (Sg rfl (dF (by omega)) (oL sc23 rfl (Bg1.cell rfl)) (Sg rfl (dF (by omega)) (o_len Tryz.underlying23 rfl) (Sg rfl (dF (by omega)) (oE rfl rfl) (Sg rfl (dT hlist) (oF (dF (by omega)) rfl rfl) (Sv (oT (dT hlist) rfl rfl) (Za rfl (Ln ?_)))))))))))))
         exact e_K (hK3 _ _ _ _ (cR (ret1 rfl rfl ⟨congrArg Value.bool (by simp only [JV.plain]; clear E R Rl Rm Bg1; simp_all <;> omega), E⟩)))
        ·refine Cr (Zm rfl (Sv (o_geq rfl rfl) (Zm rfl (Sg rfl (dT hge) (oM rfl) (Sg rfl (dT hge) (o_leq rfl rfl) (Sv (oT (dT hge) rfl rfl) (Zm rfl (Sg rfl (dT hle) (oM rfl) (Sg rfl (dT hle) (oE rfl rfl) (Sg rfl (dT hle) (oM rfl) (Sg rfl (dF hk1) (oA0 fd25_1 rfl) (Sg rfl (dF hk1) (oL sc4 rfl (Bg1.cell rfl)) (Sg rfl (dF hk1) (o_not rfl) ?_)))))))))))))
         refine Sg rfl (dT hle) (oF (dF hk1) rfl rfl) (Sv (oT (dT hle) rfl rfl) (Zm rfl (Sg rfl his (oM rfl) (Sg rfl his (oE rfl rfl) (Sg rfl his (oM rfl) (Sx rfl (dT hk2) (Sx rfl (dT hk2) (Sx rfl (dT hk2) (Sg rfl his (oT (dT hk2) rfl rfl) (Sv (oT his rfl rfl) (Zm rfl (Sg rfl rfl (oM rfl) (Sg rfl rfl (oE rfl rfl) ?_)))))))))))))
         refine Sg rfl rfl (oM rfl) (Sg rfl (dF (by omega)) (oA0 fd25_3 rfl) (Sg rfl (dF (by omega)) (oL sc9 rfl (Bg1.cell rfl)) (Sg rfl (dF (by omega)) (o_seq rfl rfl) (Sg rfl rfl (oF (dF (by omega)) rfl rfl) (Sv (oT rfl rfl rfl) (Zm rfl (Sg rfl (dT hstr) (oM rfl) (Sg rfl (dT hstr) (oE rfl rfl) (Sg rfl (dT hstr) (oM rfl) (Sg rfl (dF (by omega)) (oA0 fd25_4 rfl) (Sg rfl (dF (by omega)) (oL sc22 rfl (Bg1.cell rfl)) (Sg rfl (dF (by omega)) (o_len Tryz.underlying22 rfl) (Sg rfl (dF (by omega)) (oE rfl rfl) ?_)))))))))))))
         refine Sg rfl (dT hstr) (oF (dF (by omega)) rfl rfl) (Sv (oT (dT hstr) rfl rfl) (Zm rfl (Sg rfl (dT hlist) (oM rfl) (Sg rfl (dT hlist) (oE rfl rfl) (Sg rfl (dT hlist) (oM rfl) (Sg rfl (dF (by omega)) (oA0 fd25_5 rfl) (Sg rfl (dF (by omega)) (oL sc23 rfl (Bg1.cell rfl)) (Sg rfl (dF (by omega)) (o_len Tryz.underlying23 rfl) (Sg rfl (dF (by omega)) (oE rfl rfl) (Sg rfl (dT hlist) (oF (dF (by omega)) rfl rfl) (Sv (oT (dT hlist) rfl rfl) (Za rfl (Ln ?_)))))))))))))
         exact e_K (hK3 _ _ _ _ (cR (ret1 rfl rfl ⟨congrArg Value.bool (by simp only [JV.plain]; clear E R Rl Rm Bg1; simp_all <;> omega), E⟩)))
       ·refine Cr (Zm rfl (Sv (o_geq rfl rfl) (Zm rfl (Sg rfl (dT hge) (oM rfl) (Sg rfl (dT hge) (o_leq rfl rfl) (Sv (oT (dT hge) rfl rfl) (Zm rfl (Sg rfl (dT hle) (oM rfl) (Sg rfl (dT hle) (oE rfl rfl) (Sg rfl (dT hle) (oM rfl) (Sg rfl (dF hk1) (oA0 fd25_1 rfl) (Sg rfl (dF hk1) (oL sc4 rfl (Bg1.cell rfl)) (Sg rfl (dF hk1) (o_not rfl) ?_)))))))))))))
        refine Sg rfl (dT hle) (oF (dF hk1) rfl rfl) (Sv (oT (dT hle) rfl rfl) (Zm rfl (Sg rfl his (oM rfl) (Sg rfl his (oE rfl rfl) (Sg rfl his (oM rfl) (Sx rfl (dT hk2) (Sx rfl (dT hk2) (Sx rfl (dT hk2) (Sg rfl his (oT (dT hk2) rfl rfl) (Sv (oT his rfl rfl) (Zm rfl (Sg rfl rfl (oM rfl) (Sg rfl rfl (oE rfl rfl) ?_)))))))))))))
        refine Sg rfl rfl (oM rfl) (Sg rfl (dF (by omega)) (oA0 fd25_3 rfl) (Sg rfl (dF (by omega)) (oL sc9 rfl (Bg1.cell rfl)) (Sg rfl (dF (by omega)) (o_seq rfl rfl) (Sg rfl rfl (oF (dF (by omega)) rfl rfl) (Sv (oT rfl rfl rfl) (Zm rfl (Sg rfl (dT hstr) (oM rfl) (Sg rfl (dT hstr) (oE rfl rfl) (Sg rfl (dT hstr) (oM rfl) (Sg rfl (dF (by omega)) (oA0 fd25_4 rfl) (Sg rfl (dF (by omega)) (oL sc22 rfl (Bg1.cell rfl)) (Sg rfl (dF (by omega)) (o_len Tryz.underlying22 rfl) (Sg rfl (dF (by omega)) (oE rfl rfl) ?_)))))))))))))
        refine Sg rfl (dT hstr) (oF (dF (by omega)) rfl rfl) (Sv (oT (dT hstr) rfl rfl) (Zm rfl (Sx rfl (dF hlist) (Sx rfl (dF hlist) (Sx rfl (dF hlist) (snu rfl rfl rfl (snu rfl rfl rfl (snu rfl rfl rfl (snu rfl rfl rfl (Sx rfl (dF hlist) (Sv (oF (dF hlist) rfl rfl) (Za rfl (Ln ?_)))))))))))))
        exact e_K (hK3 _ _ _ _ (cR (ret1 rfl rfl ⟨congrArg Value.bool (by simp only [JV.plain]; clear E R Rl Rm Bg1; simp_all <;> omega), E⟩)))
      ·refine Cr (Zm rfl (Sv (o_geq rfl rfl) (Zm rfl (Sg rfl (dT hge) (oM rfl) (Sg rfl (dT hge) (o_leq rfl rfl) (Sv (oT (dT hge) rfl rfl) (Zm rfl (Sg rfl (dT hle) (oM rfl) (Sg rfl (dT hle) (oE rfl rfl) (Sg rfl (dT hle) (oM rfl) (Sg rfl (dF hk1) (oA0 fd25_1 rfl) (Sg rfl (dF hk1) (oL sc4 rfl (Bg1.cell rfl)) (Sg rfl (dF hk1) (o_not rfl) ?_)))))))))))))
       refine Sg rfl (dT hle) (oF (dF hk1) rfl rfl) (Sv (oT (dT hle) rfl rfl) (Zm rfl (Sg rfl his (oM rfl) (Sg rfl his (oE rfl rfl) (Sg rfl his (oM rfl) (Sx rfl (dT hk2) (Sx rfl (dT hk2) (Sx rfl (dT hk2) (Sg rfl his (oT (dT hk2) rfl rfl) (Sv (oT his rfl rfl) (Zm rfl (Sg rfl rfl (oM rfl) (Sg rfl rfl (oE rfl rfl) ?_)))))))))))))
       refine Sg rfl rfl (oM rfl) (Sg rfl (dF (by omega)) (oA0 fd25_3 rfl) (Sg rfl (dF (by omega)) (oL sc9 rfl (Bg1.cell rfl)) (Sg rfl (dF (by omega)) (o_seq rfl rfl) (Sg rfl rfl (oF (dF (by omega)) rfl rfl) (Sv (oT rfl rfl rfl) (Zm rfl (Sx rfl (dF hstr) (Sx rfl (dF hstr) (Sx rfl (dF hstr) (snu rfl rfl rfl (snu rfl rfl rfl (snu rfl rfl rfl (snu rfl rfl rfl ?_)))))))))))))
       refine Sx rfl (dF hstr) (Sv (oF (dF hstr) rfl rfl) (Zm rfl (Sx rfl rfl (Sx rfl rfl (Sx rfl rfl (snu rfl rfl rfl (snu rfl rfl rfl (snu rfl rfl rfl (snu rfl rfl rfl (Sx rfl rfl (Sv (oF rfl rfl rfl) (Za rfl (Ln ?_)))))))))))))
       exact e_K (hK3 _ _ _ _ (cR (ret1 rfl rfl ⟨congrArg Value.bool (by simp only [JV.plain]; clear E R Rl Rm Bg1; simp_all <;> omega), E⟩)))
     ·by_cases hnum : v.num = 0
      ·by_cases hk3 : v.kind = 3
       ·by_cases hlist : (v.list.length : Int) = 0
        ·by_cases hmap : (v.map.length : Int) = 0
         ·refine Cr (Zm rfl (Sv (o_geq rfl rfl) (Zm rfl (Sg rfl (dT hge) (oM rfl) (Sg rfl (dT hge) (o_leq rfl rfl) (Sv (oT (dT hge) rfl rfl) (Zm rfl (Sg rfl (dT hle) (oM rfl) (Sg rfl (dT hle) (oE rfl rfl) (Sg rfl (dT hle) (oM rfl) (Sg rfl (dF hk1) (oA0 fd25_1 rfl) (Sg rfl (dF hk1) (oL sc4 rfl (Bg1.cell rfl)) (Sg rfl (dF hk1) (o_not rfl) ?_)))))))))))))
          refine Sg rfl (dT hle) (oF (dF hk1) rfl rfl) (Sv (oT (dT hle) rfl rfl) (Zm rfl (Sg rfl his (oM rfl) (Sg rfl his (oE rfl rfl) (Sg rfl his (oM rfl) (Sg rfl (dF hk2) (oA0 fd25_2 rfl) (Sg rfl (dF hk2) (oL sc3 rfl (Bg1.cell rfl)) (Sg rfl (dF hk2) (oE rfl rfl) (Sg rfl his (oF (dF hk2) rfl rfl) (Sv (oT his rfl rfl) (Zm rfl (Sg rfl (dT hnum) (oM rfl) (Sg rfl (dT hnum) (oE rfl rfl) ?_)))))))))))))
          refine Sg rfl (dT hnum) (oM rfl) (Sx rfl (dT hk3) (Sx rfl (dT hk3) (Sx rfl (dT hk3) (Sg rfl (dT hnum) (oT (dT hk3) rfl rfl) (Sv (oT (dT hnum) rfl rfl) (Zm rfl (Sg rfl rfl (oM rfl) (Sg rfl rfl (oE rfl rfl) (Sg rfl rfl (oM rfl) (Sg rfl (dF (by omega)) (oA0 fd25_4 rfl) (Sg rfl (dF (by omega)) (oL sc22 rfl (Bg1.cell rfl)) (Sg rfl (dF (by omega)) (o_len Tryz.underlying22 rfl) (Sg rfl (dF (by omega)) (oE rfl rfl) ?_)))))))))))))
          refine Sg rfl rfl (oF (dF (by omega)) rfl rfl) (Sv (oT rfl rfl rfl) (Zm rfl (Sg rfl (dT hlist) (oM rfl) (Sg rfl (dT hlist) (oE rfl rfl) (Sg rfl (dT hlist) (oM rfl) (Sg rfl (dF (by omega)) (oA0 fd25_5 rfl) (Sg rfl (dF (by omega)) (oL sc23 rfl (Bg1.cell rfl)) (Sg rfl (dF (by omega)) (o_len Tryz.underlying23 rfl) (Sg rfl (dF (by omega)) (oE rfl rfl) (Sg rfl (dT hlist) (oF (dF (by omega)) rfl rfl) (Sv (oT (dT hlist) rfl rfl) (Za rfl (Ln ?_)))))))))))))
          exact e_K (hK3 _ _ _ _ (cR (ret1 rfl rfl ⟨congrArg Value.bool (by simp only [JV.plain]; clear E R Rl Rm Bg1; simp_all <;> omega), E⟩)))
         ·refine Cr (Zm rfl (Sv (o_geq rfl rfl) (Zm rfl (Sg rfl (dT hge) (oM rfl) (Sg rfl (dT hge) (o_leq rfl rfl) (Sv (oT (dT hge) rfl rfl) (Zm rfl (Sg rfl (dT hle) (oM rfl) (Sg rfl (dT hle) (oE rfl rfl) (Sg rfl (dT hle) (oM rfl) (Sg rfl (dF hk1) (oA0 fd25_1 rfl) (Sg rfl (dF hk1) (oL sc4 rfl (Bg1.cell rfl)) (Sg rfl (dF hk1) (o_not rfl) ?_)))))))))))))
          refine Sg rfl (dT hle) (oF (dF hk1) rfl rfl) (Sv (oT (dT hle) rfl rfl) (Zm rfl (Sg rfl his (oM rfl) (Sg rfl his (oE rfl rfl) (Sg rfl his (oM rfl) (Sg rfl (dF hk2) (oA0 fd25_2 rfl) (Sg rfl (dF hk2) (oL sc3 rfl (Bg1.cell rfl)) (Sg rfl (dF hk2) (oE rfl rfl) (Sg rfl his (oF (dF hk2) rfl rfl) (Sv (oT his rfl rfl) (Zm rfl (Sg rfl (dT hnum) (oM rfl) (Sg rfl (dT hnum) (oE rfl rfl) ?_)))))))))))))
          refine Sg rfl (dT hnum) (oM rfl) (Sx rfl (dT hk3) (Sx rfl (dT hk3) (Sx rfl (dT hk3) (Sg rfl (dT hnum) (oT (dT hk3) rfl rfl) (Sv (oT (dT hnum) rfl rfl) (Zm rfl (Sg rfl rfl (oM rfl) (Sg rfl rfl (oE rfl rfl) (Sg rfl rfl (oM rfl) (Sg rfl (dF (by omega)) (oA0 fd25_4 rfl) (Sg rfl (dF (by omega)) (oL sc22 rfl (Bg1.cell rfl)) (Sg rfl (dF (by omega)) (o_len Tryz.underlying22 rfl) (Sg rfl (dF (by omega)) (oE rfl rfl) ?_)))))))))))))
          refine Sg rfl rfl (oF (dF (by omega)) rfl rfl) (Sv (oT rfl rfl rfl) (Zm rfl (Sg rfl (dT hlist) (oM rfl) (Sg rfl (dT hlist) (oE rfl rfl) (Sg rfl (dT hlist) (oM rfl) (Sg rfl (dF (by omega)) (oA0 fd25_5 rfl) (Sg rfl (dF (by omega)) (oL sc23 rfl (Bg1.cell rfl)) (Sg rfl (dF (by omega)) (o_len Tryz.underlying23 rfl) (Sg rfl (dF (by omega)) (oE rfl rfl) (Sg rfl (dT hlist) (oF (dF (by omega)) rfl rfl) (Sv (oT (dT hlist) rfl rfl) (Za rfl (Ln ?_)))))))))))))
          exact e_K (hK3 _ _ _ _ (cR (ret1 rfl rfl ⟨congrArg Value.bool (by simp only [JV.plain]; clear E R Rl Rm Bg1; simp_all <;> omega), E⟩)))
        ·refine Cr (Zm rfl (Sv (o_geq rfl rfl) (Zm rfl (Sg rfl (dT hge) (oM rfl) (Sg rfl (dT hge) (o_leq rfl rfl) (Sv (oT (dT hge) rfl rfl) (Zm rfl (Sg rfl (dT hle) (oM rfl) (Sg rfl (dT hle) (oE rfl rfl) (Sg rfl (dT hle) (oM rfl) (Sg rfl (dF hk1) (oA0 fd25_1 rfl) (Sg rfl (dF hk1) (oL sc4 rfl (Bg1.cell rfl)) (Sg rfl (dF hk1) (o_not rfl) ?_)))))))))))))
         refine Sg rfl (dT hle) (oF (dF hk1) rfl rfl) (Sv (oT (dT hle) rfl rfl) (Zm rfl (Sg rfl his (oM rfl) (Sg rfl his (oE rfl rfl) (Sg rfl his (oM rfl) (Sg rfl (dF hk2) (oA0 fd25_2 rfl) (Sg rfl (dF hk2) (oL sc3 rfl (Bg1.cell rfl)) (Sg rfl (dF hk2) (oE rfl rfl) (Sg rfl his (oF (dF hk2) rfl rfl) (Sv (oT his rfl rfl) (Zm rfl (Sg rfl (dT hnum) (oM rfl) (Sg rfl (dT hnum) (oE rfl rfl) ?_)))))))))))))
         refine Sg rfl (dT hnum) (oM rfl) (Sx rfl (dT hk3) (Sx rfl (dT hk3) (Sx rfl (dT hk3) (Sg rfl (dT hnum) (oT (dT hk3) rfl rfl) (Sv (oT (dT hnum) rfl rfl) (Zm rfl (Sg rfl rfl (oM rfl) (Sg rfl rfl (oE rfl rfl) (Sg rfl rfl (oM rfl) (Sg rfl (dF (by omega)) (oA0 fd25_4 rfl) (Sg rfl (dF (by omega)) (oL sc22 rfl (Bg1.cell rfl)) (Sg rfl (dF (by omega)) (o_len Tryz.underlying22 rfl) (Sg rfl (dF (by omega)) (oE rfl rfl) ?_)))))))))))))
         refine Sg rfl rfl (oF (dF (by omega)) rfl rfl) (Sv (oT rfl rfl rfl) (Zm rfl (Sx rfl (dF hlist) (Sx rfl (dF hlist) (Sx rfl (dF hlist) (snu rfl rfl rfl (snu rfl rfl rfl (snu rfl rfl rfl (snu rfl rfl rfl (Sx rfl (dF hlist) (Sv (oF (dF hlist) rfl rfl) (Za rfl (Ln ?_)))))))))))))
         exact e_K (hK3 _ _ _ _ (cR (ret1 rfl rfl ⟨congrArg Value.bool (by simp only [JV.plain]; clear E R Rl Rm Bg1; simp_all <;> omega), E⟩)))
       ·by_cases hstr : v.str = []
        ·by_cases hk4 : v.kind = 4
         ·by_cases hmap : (v.map.length : Int) = 0
          ·refine Cr (Zm rfl (Sv (o_geq rfl rfl) (Zm rfl (Sg rfl (dT hge) (oM rfl) (Sg rfl (dT hge) (o_leq rfl rfl) (Sv (oT (dT hge) rfl rfl) (Zm rfl (Sg rfl (dT hle) (oM rfl) (Sg rfl (dT hle) (oE rfl rfl) (Sg rfl (dT hle) (oM rfl) (Sg rfl (dF hk1) (oA0 fd25_1 rfl) (Sg rfl (dF hk1) (oL sc4 rfl (Bg1.cell rfl)) (Sg rfl (dF hk1) (o_not rfl) ?_)))))))))))))
           refine Sg rfl (dT hle) (oF (dF hk1) rfl rfl) (Sv (oT (dT hle) rfl rfl) (Zm rfl (Sg rfl his (oM rfl) (Sg rfl his (oE rfl rfl) (Sg rfl his (oM rfl) (Sg rfl (dF hk2) (oA0 fd25_2 rfl) (Sg rfl (dF hk2) (oL sc3 rfl (Bg1.cell rfl)) (Sg rfl (dF hk2) (oE rfl rfl) (Sg rfl his (oF (dF hk2) rfl rfl) (Sv (oT his rfl rfl) (Zm rfl (Sg rfl (dT hnum) (oM rfl) (Sg rfl (dT hnum) (oE rfl rfl) ?_)))))))))))))
           refine Sg rfl (dT hnum) (oM rfl) (Sg rfl (dF hk3) (oA0 fd25_3 rfl) (Sg rfl (dF hk3) (oL sc9 rfl (Bg1.cell rfl)) (Sg rfl (dF hk3) (o_seq rfl rfl) (Sg rfl (dT hnum) (oF (dF hk3) rfl rfl) (Sv (oT (dT hnum) rfl rfl) (Zm rfl (Sg rfl (dT hstr) (oM rfl) (Sg rfl (dT hstr) (oE rfl rfl) (Sg rfl (dT hstr) (oM rfl) (Sx rfl (dT hk4) (Sx rfl (dT hk4) (Sx rfl (dT hk4) (Sx rfl (dT hk4) ?_)))))))))))))
           refine Sg rfl (dT hstr) (oT (dT hk4) rfl rfl) (Sv (oT (dT hstr) rfl rfl) (Zm rfl (Sg rfl rfl (oM rfl) (Sg rfl rfl (oE rfl rfl) (Sg rfl rfl (oM rfl) (Sg rfl (dF (by omega)) (oA0 fd25_5 rfl) (Sg rfl (dF (by omega)) (oL sc23 rfl (Bg1.cell rfl)) (Sg rfl (dF (by omega)) (o_len Tryz.underlying23 rfl) (Sg rfl (dF (by omega)) (oE rfl rfl) (Sg rfl rfl (oF (dF (by omega)) rfl rfl) (Sv (oT rfl rfl rfl) (Za rfl (Ln ?_)))))))))))))
           exact e_K (hK3 _ _ _ _ (cR (ret1 rfl rfl ⟨congrArg Value.bool (by simp only [JV.plain]; clear E R Rl Rm Bg1; simp_all <;> omega), E⟩)))
          ·refine Cr (Zm rfl (Sv (o_geq rfl rfl) (Zm rfl (Sg rfl (dT hge) (oM rfl) (Sg rfl (dT hge) (o_leq rfl rfl) (Sv (oT (dT hge) rfl rfl) (Zm rfl (Sg rfl (dT hle) (oM rfl) (Sg rfl (dT hle) (oE rfl rfl) (Sg rfl (dT hle) (oM rfl) (Sg rfl (dF hk1) (oA0 fd25_1 rfl) (Sg rfl (dF hk1) (oL sc4 rfl (Bg1.cell rfl)) (Sg rfl (dF hk1) (o_not rfl) ?_)))))))))))))
           refine Sg rfl (dT hle) (oF (dF hk1) rfl rfl) (Sv (oT (dT hle) rfl rfl) (Zm rfl (Sg rfl his (oM rfl) (Sg rfl his (oE rfl rfl) (Sg rfl his (oM rfl) (Sg rfl (dF hk2) (oA0 fd25_2 rfl) (Sg rfl (dF hk2) (oL sc3 rfl (Bg1.cell rfl)) (Sg rfl (dF hk2) (oE rfl rfl) (Sg rfl his (oF (dF hk2) rfl rfl) (Sv (oT his rfl rfl) (Zm rfl (Sg rfl (dT hnum) (oM rfl) (Sg rfl (dT hnum) (oE rfl rfl) ?_)))))))))))))
           refine Sg rfl (dT hnum) (oM rfl) (Sg rfl (dF hk3) (oA0 fd25_3 rfl) (Sg rfl (dF hk3) (oL sc9 rfl (Bg1.cell rfl)) (Sg rfl (dF hk3) (o_seq rfl rfl) (Sg rfl (dT hnum) (oF (dF hk3) rfl rfl) (Sv (oT (dT hnum) rfl rfl) (Zm rfl (Sg rfl (dT hstr) (oM rfl) (Sg rfl (dT hstr) (oE rfl rfl) (Sg rfl (dT hstr) (oM rfl) (Sx rfl (dT hk4) (Sx rfl (dT hk4) (Sx rfl (dT hk4) (Sx rfl (dT hk4) ?_)))))))))))))
           refine Sg rfl (dT hstr) (oT (dT hk4) rfl rfl) (Sv (oT (dT hstr) rfl rfl) (Zm rfl (Sg rfl rfl (oM rfl) (Sg rfl rfl (oE rfl rfl) (Sg rfl rfl (oM rfl) (Sg rfl (dF (by omega)) (oA0 fd25_5 rfl) (Sg rfl (dF (by omega)) (oL sc23 rfl (Bg1.cell rfl)) (Sg rfl (dF (by omega)) (o_len Tryz.underlying23 rfl) (Sg rfl (dF (by omega)) (oE rfl rfl) (Sg rfl rfl (oF (dF (by omega)) rfl rfl) (Sv (oT rfl rfl rfl) (Za rfl (Ln ?_)))))))))))))
           exact e_K (hK3 _ _ _ _ (cR (ret1 rfl rfl ⟨congrArg Value.bool (by simp only [JV.plain]; clear E R Rl Rm Bg1; simp_all <;> omega), E⟩)))
         ·by_cases hlist : (v.list.length : Int) = 0
          ·by_cases hk5 : v.kind = 5
           ·refine Cr (Zm rfl (Sv (o_geq rfl rfl) (Zm rfl (Sg rfl (dT hge) (oM rfl) (Sg rfl (dT hge) (o_leq rfl rfl) (Sv (oT (dT hge) rfl rfl) (Zm rfl (Sg rfl (dT hle) (oM rfl) (Sg rfl (dT hle) (oE rfl rfl) (Sg rfl (dT hle) (oM rfl) (Sg rfl (dF hk1) (oA0 fd25_1 rfl) (Sg rfl (dF hk1) (oL sc4 rfl (Bg1.cell rfl)) (Sg rfl (dF hk1) (o_not rfl) ?_)))))))))))))
            refine Sg rfl (dT hle) (oF (dF hk1) rfl rfl) (Sv (oT (dT hle) rfl rfl) (Zm rfl (Sg rfl his (oM rfl) (Sg rfl his (oE rfl rfl) (Sg rfl his (oM rfl) (Sg rfl (dF hk2) (oA0 fd25_2 rfl) (Sg rfl (dF hk2) (oL sc3 rfl (Bg1.cell rfl)) (Sg rfl (dF hk2) (oE rfl rfl) (Sg rfl his (oF (dF hk2) rfl rfl) (Sv (oT his rfl rfl) (Zm rfl (Sg rfl (dT hnum) (oM rfl) (Sg rfl (dT hnum) (oE rfl rfl) ?_)))))))))))))
            refine Sg rfl (dT hnum) (oM rfl) (Sg rfl (dF hk3) (oA0 fd25_3 rfl) (Sg rfl (dF hk3) (oL sc9 rfl (Bg1.cell rfl)) (Sg rfl (dF hk3) (o_seq rfl rfl) (Sg rfl (dT hnum) (oF (dF hk3) rfl rfl) (Sv (oT (dT hnum) rfl rfl) (Zm rfl (Sg rfl (dT hstr) (oM rfl) (Sg rfl (dT hstr) (oE rfl rfl) (Sg rfl (dT hstr) (oM rfl) (Sg rfl (dF hk4) (oA0 fd25_4 rfl) (Sg rfl (dF hk4) (oL sc22 rfl (Bg1.cell rfl)) (Sg rfl (dF hk4) (o_len Tryz.underlying22 rfl) (Sg rfl (dF hk4) (oE rfl rfl) ?_)))))))))))))
            refine Sg rfl (dT hstr) (oF (dF hk4) rfl rfl) (Sv (oT (dT hstr) rfl rfl) (Zm rfl (Sg rfl (dT hlist) (oM rfl) (Sg rfl (dT hlist) (oE rfl rfl) (Sg rfl (dT hlist) (oM rfl) (Sx rfl (dT hk5) (Sx rfl (dT hk5) (Sx rfl (dT hk5) (Sx rfl (dT hk5) (Sg rfl (dT hlist) (oT (dT hk5) rfl rfl) (Sv (oT (dT hlist) rfl rfl) (Za rfl (Ln ?_)))))))))))))
            exact e_K (hK3 _ _ _ _ (cR (ret1 rfl rfl ⟨congrArg Value.bool (by simp only [JV.plain]; clear E R Rl Rm Bg1; simp_all <;> omega), E⟩)))
           ·by_cases hmap : (v.map.length : Int) = 0
            ·refine Cr (Zm rfl (Sv (o_geq rfl rfl) (Zm rfl (Sg rfl (dT hge) (oM rfl) (Sg rfl (dT hge) (o_leq rfl rfl) (Sv (oT (dT hge) rfl rfl) (Zm rfl (Sg rfl (dT hle) (oM rfl) (Sg rfl (dT hle) (oE rfl rfl) (Sg rfl (dT hle) (oM rfl) (Sg rfl (dF hk1) (oA0 fd25_1 rfl) (Sg rfl (dF hk1) (oL sc4 rfl (Bg1.cell rfl)) (Sg rfl (dF hk1) (o_not rfl) ?_)))))))))))))
             refine Sg rfl (dT hle) (oF (dF hk1) rfl rfl) (Sv (oT (dT hle) rfl rfl) (Zm rfl (Sg rfl his (oM rfl) (Sg rfl his (oE rfl rfl) (Sg rfl his (oM rfl) (Sg rfl (dF hk2) (oA0 fd25_2 rfl) (Sg rfl (dF hk2) (oL sc3 rfl (Bg1.cell rfl)) (Sg rfl (dF hk2) (oE rfl rfl) (Sg rfl his (oF (dF hk2) rfl rfl) (Sv (oT his rfl rfl) (Zm rfl (Sg rfl (dT hnum) (oM rfl) (Sg rfl (dT hnum) (oE rfl rfl) ?_)))))))))))))
             refine Sg rfl (dT hnum) (oM rfl) (Sg rfl (dF hk3) (oA0 fd25_3 rfl) (Sg rfl (dF hk3) (oL sc9 rfl (Bg1.cell rfl)) (Sg rfl (dF hk3) (o_seq rfl rfl) (Sg rfl (dT hnum) (oF (dF hk3) rfl rfl) (Sv (oT (dT hnum) rfl rfl) (Zm rfl (Sg rfl (dT hstr) (oM rfl) (Sg rfl (dT hstr) (oE rfl rfl) (Sg rfl (dT hstr) (oM rfl) (Sg rfl (dF hk4) (oA0 fd25_4 rfl) (Sg rfl (dF hk4) (oL sc22 rfl (Bg1.cell rfl)) (Sg rfl (dF hk4) (o_len Tryz.underlying22 rfl) (Sg rfl (dF hk4) (oE rfl rfl) ?_)))))))))))))
             refine Sg rfl (dT hstr) (oF (dF hk4) rfl rfl) (Sv (oT (dT hstr) rfl rfl) (Zm rfl (Sg rfl (dT hlist) (oM rfl) (Sg rfl (dT hlist) (oE rfl rfl) (Sg rfl (dT hlist) (oM rfl) (Sg rfl (dF hk5) (oA0 fd25_5 rfl) (Sg rfl (dF hk5) (oL sc23 rfl (Bg1.cell rfl)) (Sg rfl (dF hk5) (o_len Tryz.underlying23 rfl) (Sg rfl (dF hk5) (oE rfl rfl) (Sg rfl (dT hlist) (oF (dF hk5) rfl rfl) (Sv (oT (dT hlist) rfl rfl) (Za rfl (Ln ?_)))))))))))))
             exact e_K (hK3 _ _ _ _ (cR (ret1 rfl rfl ⟨congrArg Value.bool (by simp only [JV.plain]; clear E R Rl Rm Bg1; simp_all <;> omega), E⟩)))
            ·refine Cr (Zm rfl (Sv (o_geq rfl rfl) (Zm rfl (Sg rfl (dT hge) (oM rfl) (Sg rfl (dT hge) (o_leq rfl rfl) (Sv (oT (dT hge) rfl rfl) (Zm rfl (Sg rfl (dT hle) (oM rfl) (Sg rfl (dT hle) (oE rfl rfl) (Sg rfl (dT hle) (oM rfl) (Sg rfl (dF hk1) (oA0 fd25_1 rfl) (Sg rfl (dF hk1) (oL sc4 rfl (Bg1.cell rfl)) (Sg rfl (dF hk1) (o_not rfl) ?_)))))))))))))
             refine Sg rfl (dT hle) (oF (dF hk1) rfl rfl) (Sv (oT (dT hle) rfl rfl) (Zm rfl (Sg rfl his (oM rfl) (Sg rfl his (oE rfl rfl) (Sg rfl his (oM rfl) (Sg rfl (dF hk2) (oA0 fd25_2 rfl) (Sg rfl (dF hk2) (oL sc3 rfl (Bg1.cell rfl)) (Sg rfl (dF hk2) (oE rfl rfl) (Sg rfl his (oF (dF hk2) rfl rfl) (Sv (oT his rfl rfl) (Zm rfl (Sg rfl (dT hnum) (oM rfl) (Sg rfl (dT hnum) (oE rfl rfl) ?_)))))))))))))
             refine Sg rfl (dT hnum) (oM rfl) (Sg rfl (dF hk3) (oA0 fd25_3 rfl) (Sg rfl (dF hk3) (oL sc9 rfl (Bg1.cell rfl)) (Sg rfl (dF hk3) (o_seq rfl rfl) (Sg rfl (dT hnum) (oF (dF hk3) rfl rfl) (Sv (oT (dT hnum) rfl rfl) (Zm rfl (Sg rfl (dT hstr) (oM rfl) (Sg rfl (dT hstr) (oE rfl rfl) (Sg rfl (dT hstr) (oM rfl) (Sg rfl (dF hk4) (oA0 fd25_4 rfl) (Sg rfl (dF hk4) (oL sc22 rfl (Bg1.cell rfl)) (Sg rfl (dF hk4) (o_len Tryz.underlying22 rfl) (Sg rfl (dF hk4) (oE rfl rfl) ?_)))))))))))))
             refine Sg rfl (dT hstr) (oF (dF hk4) rfl rfl) (Sv (oT (dT hstr) rfl rfl) (Zm rfl (Sg rfl (dT hlist) (oM rfl) (Sg rfl (dT hlist) (oE rfl rfl) (Sg rfl (dT hlist) (oM rfl) (Sg rfl (dF hk5) (oA0 fd25_5 rfl) (Sg rfl (dF hk5) (oL sc23 rfl (Bg1.cell rfl)) (Sg rfl (dF hk5) (o_len Tryz.underlying23 rfl) (Sg rfl (dF hk5) (oE rfl rfl) (Sg rfl (dT hlist) (oF (dF hk5) rfl rfl) (Sv (oT (dT hlist) rfl rfl) (Za rfl (Ln ?_)))))))))))))
             exact e_K (hK3 _ _ _ _ (cR (ret1 rfl rfl ⟨congrArg Value.bool (by simp only [JV.plain]; clear E R Rl Rm Bg1; simp_all <;> omega), E⟩)))
          ·refine Cr (Zm rfl (Sv (o_geq rfl rfl) (Zm rfl (Sg rfl (dT hge) (oM rfl) (Sg rfl (dT hge) (o_leq rfl rfl) (Sv (oT (dT hge) rfl rfl) (Zm rfl (Sg rfl (dT hle) (oM rfl) (Sg rfl (dT hle) (oE rfl rfl) (Sg rfl (dT hle) (oM rfl) (Sg rfl (dF hk1) (oA0 fd25_1 rfl) (Sg rfl (dF hk1) (oL sc4 rfl (Bg1.cell rfl)) (Sg rfl (dF hk1) (o_not rfl) ?_)))))))))))))
           refine Sg rfl (dT hle) (oF (dF hk1) rfl rfl) (Sv (oT (dT hle) rfl rfl) (Zm rfl (Sg rfl his (oM rfl) (Sg rfl his (oE rfl rfl) (Sg rfl his (oM rfl) (Sg rfl (dF hk2) (oA0 fd25_2 rfl) (Sg rfl (dF hk2) (oL sc3 rfl (Bg1.cell rfl)) (Sg rfl (dF hk2) (oE rfl rfl) (Sg rfl his (oF (dF hk2) rfl rfl) (Sv (oT his rfl rfl) (Zm rfl (Sg rfl (dT hnum) (oM rfl) (Sg rfl (dT hnum) (oE rfl rfl) ?_)))))))))))))
           refine Sg rfl (dT hnum) (oM rfl) (Sg rfl (dF hk3) (oA0 fd25_3 rfl) (Sg rfl (dF hk3) (oL sc9 rfl (Bg1.cell rfl)) (Sg rfl (dF hk3) (o_seq rfl rfl) (Sg rfl (dT hnum) (oF (dF hk3) rfl rfl) (Sv (oT (dT hnum) rfl rfl) (Zm rfl (Sg rfl (dT hstr) (oM rfl) (Sg rfl (dT hstr) (oE rfl rfl) (Sg rfl (dT hstr) (oM rfl) (Sg rfl (dF hk4) (oA0 fd25_4 rfl) (Sg rfl (dF hk4) (oL sc22 rfl (Bg1.cell rfl)) (Sg rfl (dF hk4) (o_len Tryz.underlying22 rfl) (Sg rfl (dF hk4) (oE rfl rfl) ?_)))))))))))))
           refine Sg rfl (dT hstr) (oF (dF hk4) rfl rfl) (Sv (oT (dT hstr) rfl rfl) (Zm rfl (Sx rfl (dF hlist) (Sx rfl (dF hlist) (Sx rfl (dF hlist) (snu rfl rfl rfl (snu rfl rfl rfl (snu rfl rfl rfl (snu rfl rfl rfl (Sx rfl (dF hlist) (Sv (oF (dF hlist) rfl rfl) (Za rfl (Ln ?_)))))))))))))
           exact e_K (hK3 _ _ _ _ (cR (ret1 rfl rfl ⟨congrArg Value.bool (by simp only [JV.plain]; clear E R Rl Rm Bg1; simp_all <;> omega), E⟩)))
        ·refine Cr (Zm rfl (Sv (o_geq rfl rfl) (Zm rfl (Sg rfl (dT hge) (oM rfl) (Sg rfl (dT hge) (o_leq rfl rfl) (Sv (oT (dT hge) rfl rfl) (Zm rfl (Sg rfl (dT hle) (oM rfl) (Sg rfl (dT hle) (oE rfl rfl) (Sg rfl (dT hle) (oM rfl) (Sg rfl (dF hk1) (oA0 fd25_1 rfl) (Sg rfl (dF hk1) (oL sc4 rfl (Bg1.cell rfl)) (Sg rfl (dF hk1) (o_not rfl) ?_)))))))))))))
         refine Sg rfl (dT hle) (oF (dF hk1) rfl rfl) (Sv (oT (dT hle) rfl rfl) (Zm rfl (Sg rfl his (oM rfl) (Sg rfl his (oE rfl rfl) (Sg rfl his (oM rfl) (Sg rfl (dF hk2) (oA0 fd25_2 rfl) (Sg rfl (dF hk2) (oL sc3 rfl (Bg1.cell rfl)) (Sg rfl (dF hk2) (oE rfl rfl) (Sg rfl his (oF (dF hk2) rfl rfl) (Sv (oT his rfl rfl) (Zm rfl (Sg rfl (dT hnum) (oM rfl) (Sg rfl (dT hnum) (oE rfl rfl) ?_)))))))))))))
         refine Sg rfl (dT hnum) (oM rfl) (Sg rfl (dF hk3) (oA0 fd25_3 rfl) (Sg rfl (dF hk3) (oL sc9 rfl (Bg1.cell rfl)) (Sg rfl (dF hk3) (o_seq rfl rfl) (Sg rfl (dT hnum) (oF (dF hk3) rfl rfl) (Sv (oT (dT hnum) rfl rfl) (Zm rfl (Sx rfl (dF hstr) (Sx rfl (dF hstr) (Sx rfl (dF hstr) (snu rfl rfl rfl (snu rfl rfl rfl (snu rfl rfl rfl (snu rfl rfl rfl ?_)))))))))))))
         refine Sx rfl (dF hstr) (Sv (oF (dF hstr) rfl rfl) (Zm rfl (Sx rfl rfl (Sx rfl rfl (Sx rfl rfl (snu rfl rfl rfl (snu rfl rfl rfl (snu rfl rfl rfl (snu rfl rfl rfl (Sx rfl rfl (Sv (oF rfl rfl rfl) (Za rfl (Ln ?_)))))))))))))
         exact e_K (hK3 _ _ _ _ (cR (ret1 rfl rfl ⟨congrArg Value.bool (by simp only [JV.plain]; clear E R Rl Rm Bg1; simp_all <;> omega), E⟩)))
      ·refine Cr (Zm rfl (Sv (o_geq rfl rfl) (Zm rfl (Sg rfl (dT hge) (oM rfl) (Sg rfl (dT hge) (o_leq rfl rfl) (Sv (oT (dT hge) rfl rfl) (Zm rfl (Sg rfl (dT hle) (oM rfl) (Sg rfl (dT hle) (oE rfl rfl) (Sg rfl (dT hle) (oM rfl) (Sg rfl (dF hk1) (oA0 fd25_1 rfl) (Sg rfl (dF hk1) (oL sc4 rfl (Bg1.cell rfl)) (Sg rfl (dF hk1) (o_not rfl) ?_)))))))))))))
       refine Sg rfl (dT hle) (oF (dF hk1) rfl rfl) (Sv (oT (dT hle) rfl rfl) (Zm rfl (Sg rfl his (oM rfl) (Sg rfl his (oE rfl rfl) (Sg rfl his (oM rfl) (Sg rfl (dF hk2) (oA0 fd25_2 rfl) (Sg rfl (dF hk2) (oL sc3 rfl (Bg1.cell rfl)) (Sg rfl (dF hk2) (oE rfl rfl) (Sg rfl his (oF (dF hk2) rfl rfl) (Sv (oT his rfl rfl) (Zm rfl (Sx rfl (dF hnum) (Sx rfl (dF hnum) ?_)))))))))))))
       refine Sx rfl (dF hnum) (snu rfl rfl rfl (snu rfl rfl rfl (snu rfl rfl rfl (Sx rfl (dF hnum) (Sv (oF (dF hnum) rfl rfl) (Zm rfl (Sx rfl rfl (Sx rfl rfl (Sx rfl rfl (snu rfl rfl rfl (snu rfl rfl rfl (snu rfl rfl rfl (snu rfl rfl rfl ?_)))))))))))))
       refine Sx rfl rfl (Sv (oF rfl rfl rfl) (Zm rfl (Sx rfl rfl (Sx rfl rfl (Sx rfl rfl (snu rfl rfl rfl (snu rfl rfl rfl (snu rfl rfl rfl (snu rfl rfl rfl (Sx rfl rfl (Sv (oF rfl rfl rfl) (Za rfl (Ln ?_)))))))))))))
       exact e_K (hK3 _ _ _ _ (cR (ret1 rfl rfl ⟨congrArg Value.bool (by simp only [JV.plain]; clear E R Rl Rm Bg1; simp_all <;> omega), E⟩)))
    ·refine Cr (Zm rfl (Sv (o_geq rfl rfl) (Zm rfl (Sg rfl (dT hge) (oM rfl) (Sg rfl (dT hge) (o_leq rfl rfl) (Sv (oT (dT hge) rfl rfl) (Zm rfl (Sg rfl (dT hle) (oM rfl) (Sg rfl (dT hle) (oE rfl rfl) (Sg rfl (dT hle) (oM rfl) (Sg rfl (dF hk1) (oA0 fd25_1 rfl) (Sg rfl (dF hk1) (oL sc4 rfl (Bg1.cell rfl)) (Sg rfl (dF hk1) (o_not rfl) ?_)))))))))))))
     refine Sg rfl (dT hle) (oF (dF hk1) rfl rfl) (Sv (oT (dT hle) rfl rfl) (Zm rfl (Sx rfl (bF his) (Sx rfl (bF his) (Sx rfl (bF his) (snu rfl rfl rfl (snu rfl rfl rfl (snu rfl rfl rfl (Sx rfl (bF his) (Sv (oF (bF his) rfl rfl) (Zm rfl (Sx rfl rfl (Sx rfl rfl ?_)))))))))))))
     refine Sx rfl rfl (snu rfl rfl rfl (snu rfl rfl rfl (snu rfl rfl rfl (Sx rfl rfl (Sv (oF rfl rfl rfl) (Zm rfl (Sx rfl rfl (Sx rfl rfl (Sx rfl rfl (snu rfl rfl rfl (snu rfl rfl rfl (snu rfl rfl rfl (snu rfl rfl rfl ?_)))))))))))))
     refine Sx rfl rfl (Sv (oF rfl rfl rfl) (Zm rfl (Sx rfl rfl (Sx rfl rfl (Sx rfl rfl (snu rfl rfl rfl (snu rfl rfl rfl (snu rfl rfl rfl (snu rfl rfl rfl (Sx rfl rfl (Sv (oF rfl rfl rfl) (Za rfl (Ln ?_)))))))))))))
     exact e_K (hK3 _ _ _ _ (cR (ret1 rfl rfl ⟨congrArg Value.bool (by simp only [JV.plain]; clear E R Rl Rm Bg1; simp_all <;> omega), E⟩)))
  ·refine Cr (Zm rfl (Sv (o_geq rfl rfl) (Zm rfl (Sg rfl (dT hge) (oM rfl) (Sg rfl (dT hge) (o_leq rfl rfl) (Sv (oT (dT hge) rfl rfl) (Zm rfl (Sx rfl (dF hle) (Sx rfl (dF hle) (Sx rfl (dF hle) (snu rfl rfl rfl (snu rfl rfl rfl (snu rfl rfl rfl ?_)))))))))))))
   refine Sx rfl (dF hle) (Sv (oF (dF hle) rfl rfl) (Zm rfl (Sx rfl rfl (Sx rfl rfl (Sx rfl rfl (snu rfl rfl rfl (snu rfl rfl rfl (snu rfl rfl rfl (Sx rfl rfl (Sv (oF rfl rfl rfl) (Zm rfl (Sx rfl rfl (Sx rfl rfl ?_)))))))))))))
   refine Sx rfl rfl (snu rfl rfl rfl (snu rfl rfl rfl (snu rfl rfl rfl (Sx rfl rfl (Sv (oF rfl rfl rfl) (Zm rfl (Sx rfl rfl (Sx rfl rfl (Sx rfl rfl (snu rfl rfl rfl (snu rfl rfl rfl (snu rfl rfl rfl (snu rfl rfl rfl ?_)))))))))))))
   refine Sx rfl rfl (Sv (oF rfl rfl rfl) (Zm rfl (Sx rfl rfl (Sx rfl rfl (Sx rfl rfl (snu rfl rfl rfl (snu rfl rfl rfl (snu rfl rfl rfl (snu rfl rfl rfl (Sx rfl rfl (Sv (oF rfl rfl rfl) (Za rfl (Ln ?_)))))))))))))
   exact e_K (hK3 _ _ _ _ (cR (ret1 rfl rfl ⟨congrArg Value.bool (by simp only [JV.plain]; clear E R Rl Rm Bg1; simp_all <;> omega), E⟩)))
 ·refine Cr (Zm rfl (Sv (o_geq rfl rfl) (Zm rfl (Sx rfl (dF hge) (Sx rfl (dF hge) (Sv (oF (dF hge) rfl rfl) (Zm rfl (Sx rfl rfl (Sx rfl rfl (Sx rfl rfl (snu rfl rfl rfl (snu rfl rfl rfl (snu rfl rfl rfl ?_)))))))))))))
  refine Sx rfl rfl (Sv (oF rfl rfl rfl) (Zm rfl (Sx rfl rfl (Sx rfl rfl (Sx rfl rfl (snu rfl rfl rfl (snu rfl rfl rfl (snu rfl rfl rfl (Sx rfl rfl (Sv (oF rfl rfl rfl) (Zm rfl (Sx rfl rfl (Sx rfl rfl ?_)))))))))))))
  refine Sx rfl rfl (snu rfl rfl rfl (snu rfl rfl rfl (snu rfl rfl rfl (Sx rfl rfl (Sv (oF rfl rfl rfl) (Zm rfl (Sx rfl rfl (Sx rfl rfl (Sx rfl rfl (snu rfl rfl rfl (snu rfl rfl rfl (snu rfl rfl rfl (snu rfl rfl rfl ?_)))))))))))))
  refine Sx rfl rfl (Sv (oF rfl rfl rfl) (Zm rfl (Sx rfl rfl (Sx rfl rfl (Sx rfl rfl (snu rfl rfl rfl (snu rfl rfl rfl (snu rfl rfl rfl (snu rfl rfl rfl (Sx rfl rfl (Sv (oF rfl rfl rfl) (Za rfl (Ln ?_)))))))))))))
  exact e_K (hK3 _ _ _ _ (cR (ret1 rfl rfl ⟨congrArg Value.bool (by simp only [JV.plain]; clear E R Rl Rm Bg1; simp_all <;> omega), E⟩)))

theorem c_fmtb0 (w : World) (x : Bool) : Calls Tryz.prog 131 [.bool x].toArray w (Ret fun u w' => u = S (if x then JV.tTrue else JV.tFalse) ∧ Mod [] w w') := by
 refine enter Tryz.func131 rfl rfl rfl (l := [(0, _)]) ⟨rfl, trivial⟩ ?_
 have E := Mod.refl [] w
 refine Cq fun K1 hK1 => Cr (Za rfl (Ln (e_K (hK1 _ _ _ _ (Cq fun K2 hK2 => Cq fun K3 hK3 => Cr (Zm rfl (Ln (e_K (hK3 _ _ _ _ ?_)))))))))
 refine c_cond rfl (fun h3 => ?_) (fun h3 => ?_)
 ·exact Cq fun K4 hK4 => Cr (Za rfl (Ln (e_K (hK4 _ _ _ _ (cR (eT (by simp) (ret1 rfl rfl ⟨by rw [h3]; rfl, E⟩)))))))
 ·exact cK (e_K (hK2 _ _ _ _ (Cq fun K5 hK5 => Cr (Za rfl (Ln (e_K (hK5 _ _ _ _ (cR (ret1 rfl rfl ⟨by rw [h3]; rfl, E⟩)))))))))

theorem c_fmtb (w : World) (x : Bool) : Calls Tryz.prog 109 [.bool x].toArray w (Ret fun u w' => u = S (if x then JV.tTrue else JV.tFalse) ∧ Mod [] w w') := by
 refine enter Tryz.func109 rfl rfl rfl (l := [(0, _)]) ⟨rfl, trivial⟩ ?_
 have E := Mod.refl [] w
 refine Cq fun K1 hK1 => Cr (Za rfl (Ln (e_K (hK1 _ _ _ _ (Cq fun K2 hK2 => Cr (Zm rfl (sc (oC ent131 rfl) (c_fmtb0 _ _) rfl fun v_ w1 h_ => ?_)))))))
 obtain ⟨rfl, E_⟩ := h_
 replace E := E.then E_
 exact Za rfl (Ln (e_K (hK2 _ _ _ _ (cR (ret1 rfl rfl ⟨rfl, E⟩)))))

theorem c_fail (w : World) (e : Int) : Calls Tryz.prog 107 [.int .i64 e].toArray w (WrF 124 e w) := by
 exact enter Tryz.func107 rfl rfl rfl (l := [(0, _)]) ⟨rfl, trivial⟩ (Cr (Zm rfl (Sv (o_build (cs := [_]) pl124 zv124 rfl rfl) (Sv (o_mki Tryz.underlying124 rfl rfl) (s_panic rfl (endp ⟨rfl, rfl⟩))))))

theorem c_wput (w : World) (g : Nat) (u : Value) (b : Str) (HB : WrB w g 99 u b) (t : Str) (ht : t.length ≤ 1000000) : Calls Tryz.prog 108 [.pointer (some ⟨g, 0, none⟩), S t].toArray w (WrP w g 99 124 u (lng (b ++ t))) := by
 refine enter Tryz.func108 rfl rfl rfl (l := [(0, _), (1, _)]) ⟨rfl, rfl, trivial⟩ (Cq fun K1 hK1 => ?_)
 have H := WrT.init HB
 refine Cr (Zm rfl (Zm rfl (Sv (o_nilc rfl) (Sv (oA0 fd99_0 rfl) (Sv (oL sc53 rfl (H.wb.blk.cell rfl)) (Zm rfl (s_append sl53 rfl rfl H.wb.own (Src.str Tryz.underlying9 t) (by decide) (by have := H.wb.len; omega) (by have := H.wb.len; omega) rfl fun u1 w1 AA => ?_)))))))
 have O1 : OwB w1 u1 (b ++ t) := AA.own.same (by simp) (by simp [cells_b8, B8])
 obtain ⟨ad1, c1, rfl, hc1, hc2⟩ := O1.form
 have B1 := H.wb.blk.mod AA.mod (fun hx => H.wb.ne _ hx rfl)
 refine Sv (o_nilc rfl) (Sv (oA0 fd99_0 rfl) (s_st sc53 B1 rfl rfl rfl (by simp) fun w2 PX => ?_))
 have BX := PX.blk
 have MX := H.app AA PX.mod
 refine Ln (e_K (hK1 _ _ _ _ (Cq fun K2 hK2 => Cr (Zm rfl (Sv (o_nilc rfl) (Sv (oA0 fd99_0 rfl) (Sv (oL sc53 rfl (BX.cell rfl)) (Sv (o_len Tryz.underlying53 rfl) (Sv (o_gtr rfl rfl) (Ln (e_K (hK2 _ _ _ _ ?_))))))))))))
 refine c_if rfl (fun h18 => ?_) (fun h18 => ?_)
 ·refine Cr ?_
  refine scp (oC ent107 rfl) (c_fail _ 3) rfl (fun w_ h_ => h_.elim) (fun c_ w3 h_ => ?_) fun v_ w3 h_ => ?_
  ·obtain ⟨rfl, rfl⟩ := h_
   exact endp ⟨3, if_pos (by omega), by decide, rfl, MX⟩
  ·exact h_.elim
 ·exact cK (end0R rfl ((H.app' AA O1 PX.mod BX (by omega)).fin (if_neg (by omega))))

theorem c_wtext (w : World) (g : Nat) (u : Value) (b : Str) (HB : WrB w g 99 u b) (s : Str) : Calls Tryz.prog 110 [.pointer (some ⟨g, 0, none⟩), S s].toArray w (WrP w g 99 124 u (txtW b s)) := by
 refine enter Tryz.func110 rfl rfl rfl (l := [(0, _), (1, _)]) ⟨rfl, rfl, trivial⟩ (Cq fun K1 hK1 => Cq fun K2 hK2 => ?_)
 have H := WrT.init HB
 refine Cr (Zm rfl (Sv (o_slen Tryz.underlying9 rfl) (Sv (o_gtr rfl rfl) (Ln (e_K (hK2 _ _ _ _ ?_))))))
 refine c_if rfl (fun h8 => ?_) (fun h8 => ?_)
 ·refine Cr ?_
  refine scp (oC ent107 rfl) (c_fail _ 3) rfl (fun w_ h_ => h_.elim) (fun c_ w1 h_ => ?_) fun v_ w1 h_ => ?_
  ·obtain ⟨rfl, rfl⟩ := h_
   exact eT (by simp) (endp (H.fail (if_pos (by omega))))
  ·exact h_.elim
 ·refine cK (e_K (hK1 _ _ _ _ (Cq fun K3 hK3 => Cr (Zm rfl (sc (oC ent132 rfl) (c_qput _ s (by omega)) rfl fun v_ w2 h_ => ?_)))))
  obtain ⟨rfl, E_⟩ := h_
  replace H := H.mod0 E_
  refine Zm rfl (Sv (o_ext rfl rfl) (Sv (o_ext rfl rfl) (Za rfl (Za rfl (Ln (e_K (hK3 _ _ _ _ (Cq fun K4 hK4 => Cq fun K5 hK5 => Cr (Zm rfl (Sv (o_not rfl) (Ln (e_K (hK5 _ _ _ _ ?_)))))))))))))
  refine c_cond rfl (fun h16 => ?_) (fun h16 => ?_)
  ·have hv : validR s = false := by simpa using h16
   refine Cr ?_
   refine scp (oC ent107 rfl) (c_fail _ 1) rfl (fun w_ h_ => h_.elim) (fun c_ w3 h_ => ?_) fun v_ w3 h_ => ?_
   ·obtain ⟨rfl, rfl⟩ := h_
    exact eT (by simp) (endp (H.fail (by rw [txtW, if_neg (by omega), hv]; rfl)))
   ·exact h_.elim
  ·have hv : validR s = true := by simpa using h16
   refine cK (e_K (hK4 _ _ _ _ (Cr (Zm rfl (Zm rfl ?_)))))
   have hql := escs_len s
   have hqp : (putQ s).length = (escs s).length + 2 := by simp [putQ]
   rw [hv, if_pos rfl]
   refine scp (oC ent108 rfl) (c_wput _ _ _ _ H.wb (putQ s) (by omega)) rfl (fun w_ h_ => h_.elim) (fun c_ w4 h_ => ?_) fun v_ w4 h_ => ?_
   ·have hp := H.panic (r := txtW b s) h_ (fun e he => by rw [txtW, if_neg (by omega), hv]; exact he)
    exact endp hp
   obtain ⟨u1, b1, hb1, H1, hm1, ho1⟩ := H.ret h_
   replace H := H1
   exact Ln (end0R rfl (H.fin (r := txtW b s) (by rw [txtW, if_neg (by omega), hv]; exact hb1)))

theorem c_wcomma (w : World) (g : Nat) (u : Value) (b : Str) (HB : WrB w g 99 u b) (k : Nat) : Calls Tryz.prog 111 [.pointer (some ⟨g, 0, none⟩), .int .i64 (k : Int)].toArray w (WrP w g 99 124 u (if k = 0 then .ok b else lng (b ++ [44]))) := by
 refine enter Tryz.func111 rfl rfl rfl (l := [(0, _), (1, _)]) ⟨rfl, rfl, trivial⟩ (Cq fun K1 hK1 => ?_)
 have H := WrT.init HB
 refine Cr (Zm rfl (Sv (o_gtr rfl rfl) (Ln (e_K (hK1 _ _ _ _ ?_)))))
 refine c_if rfl (fun h5 => ?_) (fun h5 => ?_)
 ·skip
  refine Cr (Zm rfl ?_)
  refine scp (oC ent108 rfl) (c_wput _ _ _ _ H.wb [44] (by simp)) rfl (fun w_ h_ => h_.elim) (fun c_ w1 h_ => ?_) fun v_ w1 h_ => ?_
  ·have hp := H.panic (r := if k = 0 then .ok b else lng (b ++ [44])) h_ (fun e he => by rw [if_neg (by omega)]; exact he)
   exact endp hp
  obtain ⟨u1, b1, hb1, H1, hm1, ho1⟩ := H.ret h_
  replace H := H1
  exact Ln (end0R rfl (H.fin (by rw [if_neg (by omega)]; exact hb1)))
 ·skip
  exact cK (end0R rfl (H.fin (by rw [if_pos (by omega)])))
end Go.Proofs.YtkhbnhdlelmbnaaGreatDoor.V

set_option linter.unusedVariables false
set_option linter.unusedSimpArgs false
namespace Go.Proofs.YtkhbnhdlelmbnaaGreatDoor.V
open Go
section
variable {w w' : World} {g : Nat} {u u1 : Value} {ds : List D} {us : List Value} {A : List Nat}
theorem Reps.mod0 (R : Reps A w ds us) (k : Mod [] w w') : Reps A w' ds us := R.to0 k
theorem Reps.wstep (R : Reps (g :: ob u) w ds us) (k : Mod (g :: ob u) w w') (ho : ∀ x ∈ ob u1, x ∈ ob u ∨ w.heap.size ≤ x) : Reps (g :: ob u1) w' ds us :=
  Reps.to k (fun x hx => hx) (fun x hx => by
    rcases List.mem_cons.1 hx with rfl | h
    · exact .inl (by simp)
    · exact (ho x h).imp (fun h => by simp [h]) id) ds us R
end
theorem wl_c {l : List JV} {k deep : Nat} {x : JV} {b : Str} {W : Except Int Str} (hx : l[k]? = some x) (hinv : JV.wrl (l.drop k) deep (decide (k = 0)) b = W) :
    ((if k = 0 then Except.ok b else lng (b ++ [44])).bind fun b => (JV.wr x (deep + 1) b).bind fun b => JV.wrl (l.drop (k + 1)) deep (decide (k + 1 = 0)) b) = W := by
  rw [wrl_at hx] at hinv
  rw [show decide (k + 1 = 0) = false by simp, ← hinv]
  by_cases h : k = 0 <;> simp [h]
/-- does a key rise from the one ahead of it? -/
def riseK (m : List (Str × JV)) (k : Nat) (x : Str × JV) : Bool := match prevK m k with
  | none => true
  | some q => bl q x.1
theorem riseK_0 {m : List (Str × JV)} {k : Nat} {x : Str × JV} (h : k = 0) : riseK m k x = true := by subst h; rfl
theorem riseK_at {m : List (Str × JV)} {k : Nat} {x q : Str × JV} (hq : m[k - 1]? = some q) (h0 : 0 < k) : riseK m k x = bl q.1 x.1 := by
  unfold riseK prevK
  rw [if_neg (by omega), hq]
  rfl
theorem wm_c {m : List (Str × JV)} {k deep : Nat} {x : Str × JV} {b : Str} {W : Except Int Str} (hx : m[k]? = some x) (hinv : JV.wrm (m.drop k) deep (prevK m k) b = W) :
    ((if k = 0 then Except.ok b else lng (b ++ [44])).bind fun b => (if riseK m k x then Except.ok b else Except.error 1).bind fun b => (txtW b x.1).bind fun b => (lng (b ++ [58])).bind fun b => (JV.wr x.2 (deep + 1) b).bind fun b => JV.wrm (m.drop (k + 1)) deep (prevK m (k + 1)) b) = W := by
  by_cases h : k = 0
  · rw [riseK_0 h, if_pos h]
    exact wrm_step0 hx h hinv
  · obtain ⟨q, hq⟩ : ∃ q, m[k - 1]? = some q := ⟨_, List.getElem?_eq_getElem (by have := (List.getElem?_eq_some_iff.1 hx).1; omega)⟩
    have := wrm_step hx hq (by omega) hinv
    rw [riseK_at hq (by omega), if_neg h, ← this]
    cases lng (b ++ [44]) <;> rfl
theorem JV.bare_kind {v : JV} (h : v.bare = true) : 0 ≤ v.kind ∧ v.kind ≤ 5 := by
  unfold JV.bare at h
  simp only [Bool.and_eq_true, decide_eq_true_eq] at h
  omega
end Go.Proofs.YtkhbnhdlelmbnaaGreatDoor.V
