/-
  A part of the proof: walks of functions. No condition of its own.
-/
import Derived.Test.YtkhbnhdlelmbnaaDoorM5
import Derived.Test.YtkhbnhdlelmbnaaDoorM2
import Derived.Lib.AppendIntMem
import Derived.Lib.LaidTab
import Derived.Shelf.Small.Utf8
import Derived.Shelf.Small.Strs
import Derived.Shelf.Strconv.Itoa0
import Derived.Shelf.Strconv.Itoa1
import Derived.Shelf.LaysM
import Derived.Shelf.Strconv.Itoa2
import Derived.Shelf.Strconv.Itoa3
import Derived.Shelf.Strings.Search1
import Derived.Test.YtkhbnhdlelmbnaaDoorProg
set_option linter.unusedVariables false
set_option linter.unusedSimpArgs false
set_option maxRecDepth 10000
namespace Go.Proofs.YtkhbnhdlelmbnaaDoor.V
open Go Go.Proofs
theorem ent76 : Ent Tryd.prog 76 := Ent.of Tryd.func76 (by kernel_rfl) (by kernel_rfl)
theorem ent50 : Ent Tryd.prog 50 := Ent.of Tryd.func50 (by kernel_rfl) (by kernel_rfl)
theorem c_bare (w : World) (v : JV) (us : List Value) (R : Reps [] w v.D us) : Calls Tryd.prog 49 [.agg us.toArray].toArray w (Ret fun u w' => u = .bool v.bare ∧ Mod [] w w') := by
  refine enter Tryd.func49 rfl rfl rfl (l := [(0, _)]) ⟨rfl, trivial⟩ ?_
  have E := Mod.refl [] w
  obtain ⟨al, cl, am, cm, rfl, Rl, Rm⟩ := JV.cells_ R
  refine c_seq fun K1 hK1 => ?_
  refine c_region ?_
  refine s_box rfl rfl rfl fun g1 w1 N1 => ?_
  have Lg1_E := N1.le E
  replace E := E.then N1.mod
  have Bg1 := N1.blk
  refine sv (o_as rfl) rfl ?_
  refine l_nil ?_
  refine e_K (hK1 _ _ _ _ ?_)
  refine c_seq fun K2 hK2 => ?_
  refine c_region ?_
  refine sv (o_lda (vs := [_, _, _, _, _, _]) ag25 rfl rfl (Bg1.cs rfl)) rfl ?_
  refine s_alloc zv25 rfl fun g2 w2 N2 => ?_
  have Lg2_E := N2.le E
  have Dg1_g2 := N2.ne Bg1
  replace Bg1 := Bg1.mod0 N2.mod
  replace E := E.then N2.mod
  have Bg2 := N2.blk
  refine s_sta (vs := [_, _, _, _, _, _]) ag25 Bg2 rfl rfl rfl (by simp [Value.oneCell']) (by simp) fun w3 P3 => ?_
  replace Bg1 := Bg1.ne P3.mod (Ne.symm (Ne.symm Dg1_g2))
  replace E := E.own P3.mod Lg2_E
  replace Bg2 : Blk w3 g2 _ [_, _, _, _, _, _] := P3.blk
  refine l_nil ?_
  refine e_K (hK2 _ _ _ _ ?_)
  refine c_seq fun K3 hK3 => ?_
  have J3 : ∀ (b1 : Bool) (n1 : Int) (s1 : Str) (a1 : Option Addr) (k1 c1 : Nat) (a2 : Option Addr) (k2 c2 : Nat) (w1 : World), v.bare = (!b1 && decide (n1 = 0) && decide (s1 = []) && decide (k1 = 0) && decide (k2 = 0)) ∧ Blk w1 g2 25 [.int .i64 v.kind, .bool b1, .int .i64 n1, S s1, .slice a1 k1 c1, .slice a2 k2 c2] ∧ Mod [] w w1 → ∀ a, Has 57 [] [(3, .pointer (some ⟨g2, 0, none⟩))] a → K3 a w1 := by
    intro b1 n1 s1 a1 k1 c1 a2 k2 c2 w4 hI
    obtain ⟨hB, Bg2, E⟩ := hI
    refine hK3 _ _ _ _ ?_
    refine c_seq fun K4 hK4 => ?_
    by_cases hs17_0 : (!b1) = true
    · skip
      by_cases hs17_1 : n1 = 0
      · skip
        by_cases hs17_2 : s1 = []
        · skip
          by_cases hs17_3 : (k1 : Int) = 0
          · skip
            by_cases hs17_4 : (k2 : Int) = 0
            · skip
              refine c_region ?_
              refine sv (o_fa0 fd25_1 rfl) rfl ?_
              refine sv (o_ld sc4 rfl (Bg2.cell rfl)) rfl ?_
              refine sv (o_not rfl) rfl ?_
              refine sv (o_mv rfl) rfl ?_
              refine sg rfl (hs17_0) (o_fa0 fd25_2 rfl) rfl ?_
              refine sg rfl (hs17_0) (o_ld sc3 rfl (Bg2.cell rfl)) rfl ?_
              refine sg rfl (hs17_0) (o_eql rfl rfl) rfl ?_
              refine sv (o_pickT (hs17_0) rfl rfl) rfl ?_
              refine sv (o_mv rfl) rfl ?_
              refine sg rfl (decide_eq_true hs17_1) (o_fa0 fd25_3 rfl) rfl ?_
              refine sg rfl (decide_eq_true hs17_1) (o_ld sc9 rfl (Bg2.cell rfl)) rfl ?_
              refine sg rfl (decide_eq_true hs17_1) (o_seq rfl rfl) rfl ?_
              refine sv (o_pickT (decide_eq_true hs17_1) rfl rfl) rfl ?_
              refine sv (o_mv rfl) rfl ?_
              refine sg rfl (decide_eq_true hs17_2) (o_fa0 fd25_4 rfl) rfl ?_
              refine sg rfl (decide_eq_true hs17_2) (o_ld sc22 rfl (Bg2.cell rfl)) rfl ?_
              refine sg rfl (decide_eq_true hs17_2) (o_len Tryd.underlying22 rfl) rfl ?_
              refine sg rfl (decide_eq_true hs17_2) (o_eql rfl rfl) rfl ?_
              refine sv (o_pickT (decide_eq_true hs17_2) rfl rfl) rfl ?_
              refine sv (o_mv rfl) rfl ?_
              refine sg rfl (decide_eq_true hs17_3) (o_fa0 fd25_5 rfl) rfl ?_
              refine sg rfl (decide_eq_true hs17_3) (o_ld sc23 rfl (Bg2.cell rfl)) rfl ?_
              refine sg rfl (decide_eq_true hs17_3) (o_len Tryd.underlying23 rfl) rfl ?_
              refine sg rfl (decide_eq_true hs17_3) (o_eql rfl rfl) rfl ?_
              refine sv (o_pickT (decide_eq_true hs17_3) rfl rfl) rfl ?_
              refine sv (o_as rfl) rfl ?_
              refine l_nil ?_
              refine e_K (hK4 _ _ _ _ ?_)
              refine c_ret ?_
              exact ret1 rfl rfl ⟨by rw [hB]; clear hB; simp_all, E⟩
            · skip
              refine c_region ?_
              refine sv (o_fa0 fd25_1 rfl) rfl ?_
              refine sv (o_ld sc4 rfl (Bg2.cell rfl)) rfl ?_
              refine sv (o_not rfl) rfl ?_
              refine sv (o_mv rfl) rfl ?_
              refine sg rfl (hs17_0) (o_fa0 fd25_2 rfl) rfl ?_
              refine sg rfl (hs17_0) (o_ld sc3 rfl (Bg2.cell rfl)) rfl ?_
              refine sg rfl (hs17_0) (o_eql rfl rfl) rfl ?_
              refine sv (o_pickT (hs17_0) rfl rfl) rfl ?_
              refine sv (o_mv rfl) rfl ?_
              refine sg rfl (decide_eq_true hs17_1) (o_fa0 fd25_3 rfl) rfl ?_
              refine sg rfl (decide_eq_true hs17_1) (o_ld sc9 rfl (Bg2.cell rfl)) rfl ?_
              refine sg rfl (decide_eq_true hs17_1) (o_seq rfl rfl) rfl ?_
              refine sv (o_pickT (decide_eq_true hs17_1) rfl rfl) rfl ?_
              refine sv (o_mv rfl) rfl ?_
              refine sg rfl (decide_eq_true hs17_2) (o_fa0 fd25_4 rfl) rfl ?_
              refine sg rfl (decide_eq_true hs17_2) (o_ld sc22 rfl (Bg2.cell rfl)) rfl ?_
              refine sg rfl (decide_eq_true hs17_2) (o_len Tryd.underlying22 rfl) rfl ?_
              refine sg rfl (decide_eq_true hs17_2) (o_eql rfl rfl) rfl ?_
              refine sv (o_pickT (decide_eq_true hs17_2) rfl rfl) rfl ?_
              refine sv (o_mv rfl) rfl ?_
              refine sg rfl (decide_eq_true hs17_3) (o_fa0 fd25_5 rfl) rfl ?_
              refine sg rfl (decide_eq_true hs17_3) (o_ld sc23 rfl (Bg2.cell rfl)) rfl ?_
              refine sg rfl (decide_eq_true hs17_3) (o_len Tryd.underlying23 rfl) rfl ?_
              refine sg rfl (decide_eq_true hs17_3) (o_eql rfl rfl) rfl ?_
              refine sv (o_pickT (decide_eq_true hs17_3) rfl rfl) rfl ?_
              refine sv (o_as rfl) rfl ?_
              refine l_nil ?_
              refine e_K (hK4 _ _ _ _ ?_)
              refine c_ret ?_
              exact ret1 rfl rfl ⟨by rw [hB]; clear hB; simp_all, E⟩
          · skip
            refine c_region ?_
            refine sv (o_fa0 fd25_1 rfl) rfl ?_
            refine sv (o_ld sc4 rfl (Bg2.cell rfl)) rfl ?_
            refine sv (o_not rfl) rfl ?_
            refine sv (o_mv rfl) rfl ?_
            refine sg rfl (hs17_0) (o_fa0 fd25_2 rfl) rfl ?_
            refine sg rfl (hs17_0) (o_ld sc3 rfl (Bg2.cell rfl)) rfl ?_
            refine sg rfl (hs17_0) (o_eql rfl rfl) rfl ?_
            refine sv (o_pickT (hs17_0) rfl rfl) rfl ?_
            refine sv (o_mv rfl) rfl ?_
            refine sg rfl (decide_eq_true hs17_1) (o_fa0 fd25_3 rfl) rfl ?_
            refine sg rfl (decide_eq_true hs17_1) (o_ld sc9 rfl (Bg2.cell rfl)) rfl ?_
            refine sg rfl (decide_eq_true hs17_1) (o_seq rfl rfl) rfl ?_
            refine sv (o_pickT (decide_eq_true hs17_1) rfl rfl) rfl ?_
            refine sv (o_mv rfl) rfl ?_
            refine sg rfl (decide_eq_true hs17_2) (o_fa0 fd25_4 rfl) rfl ?_
            refine sg rfl (decide_eq_true hs17_2) (o_ld sc22 rfl (Bg2.cell rfl)) rfl ?_
            refine sg rfl (decide_eq_true hs17_2) (o_len Tryd.underlying22 rfl) rfl ?_
            refine sg rfl (decide_eq_true hs17_2) (o_eql rfl rfl) rfl ?_
            refine sv (o_pickT (decide_eq_true hs17_2) rfl rfl) rfl ?_
            refine sv (o_mv rfl) rfl ?_
            refine sn rfl (fun e_ => absurd ((decide_eq_false hs17_3).symm.trans e_) (by decide)) rfl ?_
            refine sn rfl (fun e_ => absurd ((decide_eq_false hs17_3).symm.trans e_) (by decide)) rfl ?_
            refine sn rfl (fun e_ => absurd ((decide_eq_false hs17_3).symm.trans e_) (by decide)) rfl ?_
            refine sn rfl (fun e_ => absurd ((decide_eq_false hs17_3).symm.trans e_) (by decide)) rfl ?_
            refine sv (o_pickF (decide_eq_false hs17_3) rfl rfl) rfl ?_
            refine sv (o_as rfl) rfl ?_
            refine l_nil ?_
            refine e_K (hK4 _ _ _ _ ?_)
            refine c_ret ?_
            exact ret1 rfl rfl ⟨by rw [hB]; clear hB; simp_all, E⟩
        · skip
          refine c_region ?_
          refine sv (o_fa0 fd25_1 rfl) rfl ?_
          refine sv (o_ld sc4 rfl (Bg2.cell rfl)) rfl ?_
          refine sv (o_not rfl) rfl ?_
          refine sv (o_mv rfl) rfl ?_
          refine sg rfl (hs17_0) (o_fa0 fd25_2 rfl) rfl ?_
          refine sg rfl (hs17_0) (o_ld sc3 rfl (Bg2.cell rfl)) rfl ?_
          refine sg rfl (hs17_0) (o_eql rfl rfl) rfl ?_
          refine sv (o_pickT (hs17_0) rfl rfl) rfl ?_
          refine sv (o_mv rfl) rfl ?_
          refine sg rfl (decide_eq_true hs17_1) (o_fa0 fd25_3 rfl) rfl ?_
          refine sg rfl (decide_eq_true hs17_1) (o_ld sc9 rfl (Bg2.cell rfl)) rfl ?_
          refine sg rfl (decide_eq_true hs17_1) (o_seq rfl rfl) rfl ?_
          refine sv (o_pickT (decide_eq_true hs17_1) rfl rfl) rfl ?_
          refine sv (o_mv rfl) rfl ?_
          refine sn rfl (fun e_ => absurd ((decide_eq_false hs17_2).symm.trans e_) (by decide)) rfl ?_
          refine sn rfl (fun e_ => absurd ((decide_eq_false hs17_2).symm.trans e_) (by decide)) rfl ?_
          refine sn rfl (fun e_ => absurd ((decide_eq_false hs17_2).symm.trans e_) (by decide)) rfl ?_
          refine sn rfl (fun e_ => absurd ((decide_eq_false hs17_2).symm.trans e_) (by decide)) rfl ?_
          refine sv (o_pickF (decide_eq_false hs17_2) rfl rfl) rfl ?_
          refine sv (o_mv rfl) rfl ?_
          refine sn rfl (fun e_ => absurd ((rfl).symm.trans e_) (by decide)) rfl ?_
          refine sn rfl (fun e_ => absurd ((rfl).symm.trans e_) (by decide)) rfl ?_
          refine sn rfl (fun e_ => absurd ((rfl).symm.trans e_) (by decide)) rfl ?_
          refine sn rfl (fun e_ => absurd ((rfl).symm.trans e_) (by decide)) rfl ?_
          refine sv (o_pickF (rfl) rfl rfl) rfl ?_
          refine sv (o_as rfl) rfl ?_
          refine l_nil ?_
          refine e_K (hK4 _ _ _ _ ?_)
          refine c_ret ?_
          exact ret1 rfl rfl ⟨by rw [hB]; clear hB; simp_all, E⟩
      · skip
        refine c_region ?_
        refine sv (o_fa0 fd25_1 rfl) rfl ?_
        refine sv (o_ld sc4 rfl (Bg2.cell rfl)) rfl ?_
        refine sv (o_not rfl) rfl ?_
        refine sv (o_mv rfl) rfl ?_
        refine sg rfl (hs17_0) (o_fa0 fd25_2 rfl) rfl ?_
        refine sg rfl (hs17_0) (o_ld sc3 rfl (Bg2.cell rfl)) rfl ?_
        refine sg rfl (hs17_0) (o_eql rfl rfl) rfl ?_
        refine sv (o_pickT (hs17_0) rfl rfl) rfl ?_
        refine sv (o_mv rfl) rfl ?_
        refine sn rfl (fun e_ => absurd ((decide_eq_false hs17_1).symm.trans e_) (by decide)) rfl ?_
        refine sn rfl (fun e_ => absurd ((decide_eq_false hs17_1).symm.trans e_) (by decide)) rfl ?_
        refine sn rfl (fun e_ => absurd ((decide_eq_false hs17_1).symm.trans e_) (by decide)) rfl ?_
        refine sv (o_pickF (decide_eq_false hs17_1) rfl rfl) rfl ?_
        refine sv (o_mv rfl) rfl ?_
        refine sn rfl (fun e_ => absurd ((rfl).symm.trans e_) (by decide)) rfl ?_
        refine sn rfl (fun e_ => absurd ((rfl).symm.trans e_) (by decide)) rfl ?_
        refine sn rfl (fun e_ => absurd ((rfl).symm.trans e_) (by decide)) rfl ?_
        refine sn rfl (fun e_ => absurd ((rfl).symm.trans e_) (by decide)) rfl ?_
        refine sv (o_pickF (rfl) rfl rfl) rfl ?_
        refine sv (o_mv rfl) rfl ?_
        refine sn rfl (fun e_ => absurd ((rfl).symm.trans e_) (by decide)) rfl ?_
        refine sn rfl (fun e_ => absurd ((rfl).symm.trans e_) (by decide)) rfl ?_
        refine sn rfl (fun e_ => absurd ((rfl).symm.trans e_) (by decide)) rfl ?_
        refine sn rfl (fun e_ => absurd ((rfl).symm.trans e_) (by decide)) rfl ?_
        refine sv (o_pickF (rfl) rfl rfl) rfl ?_
        refine sv (o_as rfl) rfl ?_
        refine l_nil ?_
        refine e_K (hK4 _ _ _ _ ?_)
        refine c_ret ?_
        exact ret1 rfl rfl ⟨by rw [hB]; clear hB; simp_all, E⟩
    · skip
      refine c_region ?_
      refine sv (o_fa0 fd25_1 rfl) rfl ?_
      refine sv (o_ld sc4 rfl (Bg2.cell rfl)) rfl ?_
      refine sv (o_not rfl) rfl ?_
      refine sv (o_mv rfl) rfl ?_
      refine sn rfl (fun e_ => absurd ((Bool.eq_false_iff.2 hs17_0).symm.trans e_) (by decide)) rfl ?_
      refine sn rfl (fun e_ => absurd ((Bool.eq_false_iff.2 hs17_0).symm.trans e_) (by decide)) rfl ?_
      refine sn rfl (fun e_ => absurd ((Bool.eq_false_iff.2 hs17_0).symm.trans e_) (by decide)) rfl ?_
      refine sv (o_pickF (Bool.eq_false_iff.2 hs17_0) rfl rfl) rfl ?_
      refine sv (o_mv rfl) rfl ?_
      refine sn rfl (fun e_ => absurd ((rfl).symm.trans e_) (by decide)) rfl ?_
      refine sn rfl (fun e_ => absurd ((rfl).symm.trans e_) (by decide)) rfl ?_
      refine sn rfl (fun e_ => absurd ((rfl).symm.trans e_) (by decide)) rfl ?_
      refine sv (o_pickF (rfl) rfl rfl) rfl ?_
      refine sv (o_mv rfl) rfl ?_
      refine sn rfl (fun e_ => absurd ((rfl).symm.trans e_) (by decide)) rfl ?_
      refine sn rfl (fun e_ => absurd ((rfl).symm.trans e_) (by decide)) rfl ?_
      refine sn rfl (fun e_ => absurd ((rfl).symm.trans e_) (by decide)) rfl ?_
      refine sn rfl (fun e_ => absurd ((rfl).symm.trans e_) (by decide)) rfl ?_
      refine sv (o_pickF (rfl) rfl rfl) rfl ?_
      refine sv (o_mv rfl) rfl ?_
      refine sn rfl (fun e_ => absurd ((rfl).symm.trans e_) (by decide)) rfl ?_
      refine sn rfl (fun e_ => absurd ((rfl).symm.trans e_) (by decide)) rfl ?_
      refine sn rfl (fun e_ => absurd ((rfl).symm.trans e_) (by decide)) rfl ?_
      refine sn rfl (fun e_ => absurd ((rfl).symm.trans e_) (by decide)) rfl ?_
      refine sv (o_pickF (rfl) rfl rfl) rfl ?_
      refine sv (o_as rfl) rfl ?_
      refine l_nil ?_
      refine e_K (hK4 _ _ _ _ ?_)
      refine c_ret ?_
      exact ret1 rfl rfl ⟨by rw [hB]; clear hB; simp_all, E⟩
  refine c_seq fun K5 hK5 => ?_
  refine c_region ?_
  refine sv (o_fa0 fd25_0 rfl) rfl ?_
  refine sv (o_ld sc3 rfl (Bg1.cell rfl)) rfl ?_
  refine l_nil ?_
  refine e_K (hK5 _ _ _ _ ?_)
  refine c_block ?_
  refine c_seq fun K6 hK6 => ?_
  refine c_region ?_
  refine sv (o_eql rfl rfl) rfl ?_
  refine sv (o_as rfl) rfl ?_
  refine l_nil ?_
  refine e_K (hK6 _ _ _ _ ?_)
  refine c_if rfl (fun h7 => ?_) (fun h7 => ?_)
  · skip
    refine c_skip ?_
    refine e_in (by simp) ?_
    refine WE.sub (l' := [(3, _)]) ⟨rfl, trivial⟩ (e_K (J3 v.is v.num v.str al v.list.length cl am v.map.length cm w3 ⟨by simp [JV.bare, h7], Bg2, E⟩))
  · skip
    refine c_seq fun K7 hK7 => ?_
    refine c_region ?_
    refine sv (o_eql rfl rfl) rfl ?_
    refine sv (o_as rfl) rfl ?_
    refine l_nil ?_
    refine e_K (hK7 _ _ _ _ ?_)
    refine c_if rfl (fun h9 => ?_) (fun h9 => ?_)
    · skip
      refine c_region ?_
      refine sv (o_fa0 fd25_1 rfl) rfl ?_
      refine s_st sc4 Bg2 rfl rfl rfl (by simp) fun w5 P5 => ?_
      replace Bg1 := Bg1.ne P5.mod (Ne.symm (Ne.symm Dg1_g2))
      replace E := E.own P5.mod Lg2_E
      replace Bg2 : Blk w5 g2 _ [_, _, _, _, _, _] := P5.blk
      refine l_nil ?_
      refine e_in (by simp) ?_
      refine WE.sub (l' := [(3, _)]) ⟨rfl, trivial⟩ (e_K (J3 false v.num v.str al v.list.length cl am v.map.length cm w5 ⟨by simp [JV.bare, h9], Bg2, E⟩))
    · skip
      refine c_seq fun K8 hK8 => ?_
      refine c_region ?_
      refine sv (o_eql rfl rfl) rfl ?_
      refine sv (o_as rfl) rfl ?_
      refine l_nil ?_
      refine e_K (hK8 _ _ _ _ ?_)
      refine c_if rfl (fun h12 => ?_) (fun h12 => ?_)
      · skip
        refine c_seq fun K9 hK9 => ?_
        refine c_region ?_
        refine sv (o_fa0 fd25_2 rfl) rfl ?_
        refine s_st sc3 Bg2 rfl rfl rfl (by simp) fun w6 P6 => ?_
        replace Bg1 := Bg1.ne P6.mod (Ne.symm (Ne.symm Dg1_g2))
        replace E := E.own P6.mod Lg2_E
        replace Bg2 : Blk w6 g2 _ [_, _, _, _, _, _] := P6.blk
        refine l_nil ?_
        refine e_K (hK9 _ _ _ _ ?_)
        refine c_seq fun K10 hK10 => ?_
        by_cases hs9_0 : v.num > 9007199254740991
        · skip
          refine c_region ?_
          refine sv (o_fa0 fd25_2 rfl) rfl ?_
          refine sv (o_ld sc3 rfl (Bg1.cell rfl)) rfl ?_
          refine sv (o_gtr rfl rfl) rfl ?_
          refine sv (o_mv rfl) rfl ?_
          refine sn rfl (fun e_ => absurd ((decide_eq_true hs9_0).symm.trans e_) (by decide)) rfl ?_
          refine sn rfl (fun e_ => absurd ((decide_eq_true hs9_0).symm.trans e_) (by decide)) rfl ?_
          refine sn rfl (fun e_ => absurd ((decide_eq_true hs9_0).symm.trans e_) (by decide)) rfl ?_
          refine sv (o_pickT (decide_eq_true hs9_0) rfl rfl) rfl ?_
          refine l_nil ?_
          refine e_K (hK10 _ _ _ _ ?_)
          refine c_true rfl ?_
          have hf : v.bare = false := by simp only [JV.bare, h12]; simp; intros; omega
          refine c_seq fun K11 hK11 => ?_
          refine c_region ?_
          refine sv (o_as rfl) rfl ?_
          refine l_nil ?_
          refine e_K (hK11 _ _ _ _ ?_)
          refine c_ret ?_
          refine e_in (by simp) ?_
          refine e_then (by simp) ?_
          exact ret1 rfl rfl ⟨by rw [hf], E⟩
        · skip
          refine c_region ?_
          refine sv (o_fa0 fd25_2 rfl) rfl ?_
          refine sv (o_ld sc3 rfl (Bg1.cell rfl)) rfl ?_
          refine sv (o_gtr rfl rfl) rfl ?_
          refine sv (o_mv rfl) rfl ?_
          refine sg rfl (decide_eq_false hs9_0) (o_fa0 fd25_2 rfl) rfl ?_
          refine sg rfl (decide_eq_false hs9_0) (o_ld sc3 rfl (Bg1.cell rfl)) rfl ?_
          refine sg rfl (decide_eq_false hs9_0) (o_lss rfl rfl) rfl ?_
          refine sv (o_pickF (decide_eq_false hs9_0) rfl rfl) rfl ?_
          refine l_nil ?_
          refine e_K (hK10 _ _ _ _ ?_)
          refine c_if rfl (fun h22 => ?_) (fun h22 => ?_)
          · skip
            have hf : v.bare = false := by simp only [JV.bare, h12]; simp; intros; omega
            refine c_seq fun K12 hK12 => ?_
            refine c_region ?_
            refine sv (o_as rfl) rfl ?_
            refine l_nil ?_
            refine e_K (hK12 _ _ _ _ ?_)
            refine c_ret ?_
            refine e_in (by simp) ?_
            refine e_then (by simp) ?_
            exact ret1 rfl rfl ⟨by rw [hf], E⟩
          · skip
            have hrg : -9007199254740991 ≤ v.num ∧ v.num ≤ 9007199254740991 := by omega
            refine c_skip ?_
            refine e_in (by simp) ?_
            refine WE.sub (l' := [(3, _)]) ⟨rfl, trivial⟩ (e_K (J3 v.is 0 v.str al v.list.length cl am v.map.length cm w6 ⟨by simp [JV.bare, h12, hrg], Bg2, E⟩))
      · skip
        refine c_seq fun K13 hK13 => ?_
        refine c_region ?_
        refine sv (o_eql rfl rfl) rfl ?_
        refine sv (o_as rfl) rfl ?_
        refine l_nil ?_
        refine e_K (hK13 _ _ _ _ ?_)
        refine c_if rfl (fun h23 => ?_) (fun h23 => ?_)
        · skip
          refine c_region ?_
          refine sv (o_fa0 fd25_3 rfl) rfl ?_
          refine s_st sc9 Bg2 rfl rfl rfl (by simp) fun w7 P7 => ?_
          replace Bg1 := Bg1.ne P7.mod (Ne.symm (Ne.symm Dg1_g2))
          replace E := E.own P7.mod Lg2_E
          replace Bg2 : Blk w7 g2 _ [_, _, _, _, _, _] := P7.blk
          refine l_nil ?_
          refine e_in (by simp) ?_
          refine WE.sub (l' := [(3, _)]) ⟨rfl, trivial⟩ (e_K (J3 v.is v.num [] al v.list.length cl am v.map.length cm w7 ⟨by simp [JV.bare, h23], Bg2, E⟩))
        · skip
          refine c_seq fun K14 hK14 => ?_
          refine c_region ?_
          refine sv (o_eql rfl rfl) rfl ?_
          refine sv (o_as rfl) rfl ?_
          refine l_nil ?_
          refine e_K (hK14 _ _ _ _ ?_)
          refine c_if rfl (fun h26 => ?_) (fun h26 => ?_)
          · skip
            refine c_region ?_
            refine sv (o_fa0 fd25_4 rfl) rfl ?_
            refine s_st sc22 Bg2 rfl rfl rfl (by simp) fun w8 P8 => ?_
            replace Bg1 := Bg1.ne P8.mod (Ne.symm (Ne.symm Dg1_g2))
            replace E := E.own P8.mod Lg2_E
            replace Bg2 : Blk w8 g2 _ [_, _, _, _, _, _] := P8.blk
            refine l_nil ?_
            refine e_in (by simp) ?_
            refine WE.sub (l' := [(3, _)]) ⟨rfl, trivial⟩ (e_K (J3 v.is v.num v.str none 0 0 am v.map.length cm w8 ⟨by simp [JV.bare, h26], Bg2, E⟩))
          · skip
            refine c_seq fun K15 hK15 => ?_
            refine c_region ?_
            refine sv (o_eql rfl rfl) rfl ?_
            refine sv (o_as rfl) rfl ?_
            refine l_nil ?_
            refine e_K (hK15 _ _ _ _ ?_)
            refine c_if rfl (fun h29 => ?_) (fun h29 => ?_)
            · skip
              refine c_region ?_
              refine sv (o_fa0 fd25_5 rfl) rfl ?_
              refine s_st sc23 Bg2 rfl rfl rfl (by simp) fun w9 P9 => ?_
              replace Bg1 := Bg1.ne P9.mod (Ne.symm (Ne.symm Dg1_g2))
              replace E := E.own P9.mod Lg2_E
              replace Bg2 : Blk w9 g2 _ [_, _, _, _, _, _] := P9.blk
              refine l_nil ?_
              refine e_in (by simp) ?_
              refine WE.sub (l' := [(3, _)]) ⟨rfl, trivial⟩ (e_K (J3 v.is v.num v.str al v.list.length cl none 0 0 w9 ⟨by simp [JV.bare, h29], Bg2, E⟩))
            · skip
              have hf : v.bare = false := by simp only [JV.bare]; simp; intros; omega
              refine c_seq fun K16 hK16 => ?_
              refine c_region ?_
              refine sv (o_as rfl) rfl ?_
              refine l_nil ?_
              refine e_K (hK16 _ _ _ _ ?_)
              refine c_ret ?_
              refine e_in (by simp) ?_
              refine e_then (by simp) ?_
              exact ret1 rfl rfl ⟨by rw [hf], E⟩

theorem c_long9 (w : World) (b : Str) (u0 : Value) (O : OwB w u0 b) : Calls Tryd.prog 50 [u0].toArray w (Ret fun u w' => ∃ u2, u = .tuple #[u2, .int .i64 (ern (lng b))] ∧ (u2 = u0 ∧ bts (lng b) = b ∨ u2 = .slice none 0 0 ∧ bts (lng b) = []) ∧ Mod [] w w') := by
  refine enter Tryd.func50 rfl rfl rfl (l := [(0, _)]) ⟨rfl, trivial⟩ ?_
  have E := Mod.refl [] w
  obtain ⟨ad, c, rfl, hc1, hc2⟩ := O.form
  refine c_seq fun K1 hK1 => ?_
  refine c_region ?_
  refine sv (o_as rfl) rfl ?_
  refine sv (o_as rfl) rfl ?_
  refine l_nil ?_
  refine e_K (hK1 _ _ _ _ ?_)
  refine c_seq fun K2 hK2 => ?_
  refine c_seq fun K3 hK3 => ?_
  refine c_region ?_
  refine sv (o_mv rfl) rfl ?_
  refine sv (o_len Tryd.underlying45 rfl) rfl ?_
  refine sv (o_gtr rfl rfl) rfl ?_
  refine l_nil ?_
  refine e_K (hK3 _ _ _ _ ?_)
  refine c_if rfl (fun h6 => ?_) (fun h6 => ?_)
  · skip
    have hl : lng b = .error 3 := if_pos (by omega)
    refine c_seq fun K4 hK4 => ?_
    refine c_region ?_
    refine sv (o_as rfl) rfl ?_
    refine sv (o_as rfl) rfl ?_
    refine l_nil ?_
    refine e_K (hK4 _ _ _ _ ?_)
    refine c_ret ?_
    refine e_then (by simp) ?_
    exact ret2 rfl rfl rfl ⟨_, by rw [hl]; rfl, .inr ⟨rfl, by rw [hl]; rfl⟩, E⟩
  · skip
    have hl : lng b = .ok b := if_neg (by omega)
    refine c_skip ?_
    refine e_K (hK2 _ _ _ _ ?_)
    refine c_seq fun K5 hK5 => ?_
    refine c_region ?_
    refine sv (o_mv rfl) rfl ?_
    refine sv (o_as rfl) rfl ?_
    refine sv (o_as rfl) rfl ?_
    refine l_nil ?_
    refine e_K (hK5 _ _ _ _ ?_)
    refine c_ret ?_
    exact ret2 rfl rfl rfl ⟨_, by rw [hl]; rfl, .inl ⟨rfl, by rw [hl]; rfl⟩, E⟩

theorem c_text9 (w : World) (b s : Str) (u0 : Value) (O : OwB w u0 b) (hb : b.length ≤ 65536) : Calls Tryd.prog 51 [u0, S s].toArray w (Ret fun u w' => WR w w' u0 (txtW b s) u) := by
  refine enter Tryd.func51 rfl rfl rfl (l := [(0, _), (1, _)]) ⟨rfl, rfl, trivial⟩ ?_
  have E := Mod.refl [] w
  refine c_seq fun K1 hK1 => ?_
  refine c_region ?_
  refine sv (o_as rfl) rfl ?_
  refine sv (o_as rfl) rfl ?_
  refine l_nil ?_
  refine e_K (hK1 _ _ _ _ ?_)
  refine c_seq fun K2 hK2 => ?_
  refine c_seq fun K3 hK3 => ?_
  refine c_region ?_
  refine sv (o_mv rfl) rfl ?_
  refine sv (o_slen Tryd.underlying9 rfl) rfl ?_
  refine sv (o_gtr rfl rfl) rfl ?_
  refine l_nil ?_
  refine e_K (hK3 _ _ _ _ ?_)
  refine c_if rfl (fun h10 => ?_) (fun h10 => ?_)
  · skip
    have hr : txtW b s = .error 3 := if_pos (by omega)
    refine c_seq fun K4 hK4 => ?_
    refine c_region ?_
    refine sv (o_as rfl) rfl ?_
    refine sv (o_as rfl) rfl ?_
    refine l_nil ?_
    refine e_K (hK4 _ _ _ _ ?_)
    refine c_ret ?_
    refine e_then (by simp) ?_
    exact ret2 rfl rfl rfl (WR.err E (by decide) hr)
  · skip
    have hsl : s.length ≤ 65536 := by omega
    refine c_skip ?_
    refine e_K (hK2 _ _ _ _ ?_)
    refine c_seq fun K5 hK5 => ?_
    refine c_region ?_
    refine sv (o_mv rfl) rfl ?_
    refine sc (o_call ent76 rfl) (c_put8 _ s (by omega)) rfl fun v_ w1 h_ => ?_
    obtain ⟨rfl, E_⟩ := h_
    replace E := E.then E_
    refine sv (o_mv rfl) rfl ?_
    refine sv (o_ext rfl rfl) rfl ?_
    refine sv (o_ext rfl rfl) rfl ?_
    refine sv (o_as rfl) rfl ?_
    refine sv (o_as rfl) rfl ?_
    refine l_nil ?_
    refine e_K (hK5 _ _ _ _ ?_)
    refine c_seq fun K6 hK6 => ?_
    refine c_seq fun K7 hK7 => ?_
    refine c_region ?_
    refine sv (o_mv rfl) rfl ?_
    refine sv (o_not rfl) rfl ?_
    refine l_nil ?_
    refine e_K (hK7 _ _ _ _ ?_)
    refine c_cond rfl (fun h17 => ?_) (fun h17 => ?_)
    · skip
      have hv : validR s = false := by simpa using h17
      have hr : txtW b s = .error 1 := by rw [txtW, if_neg (by omega), hv]; rfl
      refine c_seq fun K8 hK8 => ?_
      refine c_region ?_
      refine sv (o_as rfl) rfl ?_
      refine sv (o_as rfl) rfl ?_
      refine l_nil ?_
      refine e_K (hK8 _ _ _ _ ?_)
      refine c_ret ?_
      refine e_then (by simp) ?_
      exact ret2 rfl rfl rfl (WR.err E (by decide) hr)
    · skip
      have hv : validR s = true := by simpa using h17
      have hr : txtW b s = lng (b ++ putQ s) := by rw [txtW, if_neg (by omega), hv]; rfl
      refine c_skip ?_
      refine e_K (hK6 _ _ _ _ ?_)
      refine c_seq fun K9 hK9 => ?_
      refine c_region ?_
      refine sv (o_mv rfl) rfl ?_
      refine sv (o_mv rfl) rfl ?_
      have hql := escs_len s
      have hqp : (putQ s).length = (escs s).length + 2 := by simp [putQ]
      replace O := O.mod0 E
      rw [hv, if_pos rfl]
      refine s_append sl45 rfl rfl O (Src.str Tryd.underlying9 _) (by decide) (by first | omega | (simp only [List.length_append, List.length_cons, List.length_nil] at *; omega)) (by first | omega | (simp only [List.length_append, List.length_cons, List.length_nil] at *; omega)) rfl fun u1 w2 AA => ?_
      have O1 : OwB w2 u1 (b ++ putQ s) := AA.own.same (by simp) (by simp [cells_b8, B8])
      refine sc (o_call ent50 rfl) (c_long9 _ (b ++ putQ s) _ O1) rfl fun v_ w3 h_ => ?_
      obtain ⟨u2, rfl, hu2, E_⟩ := h_
      refine sv (o_ext rfl rfl) rfl ?_
      refine sv (o_ext rfl rfl) rfl ?_
      refine sv (o_as rfl) rfl ?_
      refine sv (o_as rfl) rfl ?_
      refine l_nil ?_
      refine e_K (hK9 _ _ _ _ ?_)
      refine c_ret ?_
      exact ret2 rfl rfl rfl (WR.applong E AA O1 hu2 E_ hr)
end Go.Proofs.YtkhbnhdlelmbnaaDoor.V

namespace Go.Proofs
open Go.Shelf
def Tryd.laysM171_ren : Go.Shelf.Ren := ⟨fun | 171 => 46 | 243 => 74 | 246 => 90 | 283 => 104 | 284 => 105 | 285 => 106 | 286 => 107 | 129 => 114 | 317 => 113 | 318 => 115 | 319 => 116 | 320 => 117 | 337 => 122 | 338 => 123 | n => n, fun | 3 => 3 | 9 => 9 | 2 => 2 | 4 => 4 | 171 => 118 | 0 => 0 | 53 => 119 | 37 => 45 | 5 => 5 | 173 => 122 | 212 => 126 | 51 => 124 | 20 => 20 | 213 => 127 | 46 => 96 | 232 => 133 | 233 => 134 | n => n, fun | 17 => 1 | 18 => 2 | 19 => 3 | n => n⟩
theorem Tryd.laysM171 : Go.Proofs.LaysM.n171 Tryd.prog Tryd.laysM171_ren := {
  mixed := by kernel_rfl
  f129 := Tryd.func114.trans (congrArg some (by kernel_rfl))
  f171 := Tryd.func46.trans (congrArg some (by kernel_rfl))
  f243 := Tryd.func74.trans (congrArg some (by kernel_rfl))
  f246 := Tryd.func90.trans (congrArg some (by kernel_rfl))
  f283 := Tryd.func104.trans (congrArg some (by kernel_rfl))
  f284 := Tryd.func105.trans (congrArg some (by kernel_rfl))
  f285 := Tryd.func106.trans (congrArg some (by kernel_rfl))
  f286 := Tryd.func107.trans (congrArg some (by kernel_rfl))
  f317 := Tryd.func113.trans (congrArg some (by kernel_rfl))
  f318 := Tryd.func115.trans (congrArg some (by kernel_rfl))
  f319 := Tryd.func116.trans (congrArg some (by kernel_rfl))
  f320 := Tryd.func117.trans (congrArg some (by kernel_rfl))
  f337 := Tryd.func122.trans (congrArg some (by kernel_rfl))
  f338 := Tryd.func123.trans (congrArg some (by kernel_rfl))
  t0 := Tryd.underlying0
  a0 := Tryd.isAgg0
  z0 := Tryd.sizeOf0
  v0 := Tryd.zeroValue0
  t2 := Tryd.underlying2
  a2 := Tryd.isAgg2
  z2 := Tryd.sizeOf2
  v2 := Tryd.zeroValue2
  t3 := Tryd.underlying3
  a3 := Tryd.isAgg3
  z3 := Tryd.sizeOf3
  v3 := Tryd.zeroValue3
  t4 := Tryd.underlying4
  a4 := Tryd.isAgg4
  z4 := Tryd.sizeOf4
  v4 := Tryd.zeroValue4
  t5 := Tryd.underlying5
  a5 := Tryd.isAgg5
  z5 := Tryd.sizeOf5
  v5 := Tryd.zeroValue5
  t9 := Tryd.underlying9
  a9 := Tryd.isAgg9
  z9 := Tryd.sizeOf9
  v9 := Tryd.zeroValue9
  t20 := Tryd.underlying20
  a20 := Tryd.isAgg20
  z20 := Tryd.sizeOf20
  v20 := Tryd.zeroValue20
  t37 := Tryd.underlying45
  a37 := Tryd.isAgg45
  z37 := Tryd.sizeOf45
  v37 := Tryd.zeroValue45
  t46 := Tryd.underlying96
  a46 := Tryd.isAgg96
  z46 := Tryd.sizeOf96
  v46 := Tryd.zeroValue96
  t51 := Tryd.underlying124
  a51 := Tryd.isAgg124
  z51 := Tryd.sizeOf124
  v51 := Tryd.zeroValue124
  t53 := Tryd.underlying119
  a53 := Tryd.isAgg119
  z53 := Tryd.sizeOf119
  v53 := Tryd.zeroValue119
  t171 := Tryd.underlying118
  a171 := Tryd.isAgg118
  z171 := Tryd.sizeOf118
  v171 := Tryd.zeroValue118
  t173 := Tryd.underlying122
  a173 := Tryd.isAgg122
  z173 := Tryd.sizeOf122
  v173 := Tryd.zeroValue122
  t212 := Tryd.underlying126
  a212 := Tryd.isAgg126
  z212 := Tryd.sizeOf126
  v212 := Tryd.zeroValue126
  t213 := Tryd.underlying127
  a213 := Tryd.isAgg127
  z213 := Tryd.sizeOf127
  t232 := Tryd.underlying133
  a232 := Tryd.isAgg133
  z232 := Tryd.sizeOf133
  v232 := Tryd.zeroValue133
  t233 := Tryd.underlying134
  a233 := Tryd.isAgg134
  z233 := Tryd.sizeOf134
  v233 := Tryd.zeroValue134
  g17 := by kernel_rfl
  g18 := by kernel_rfl
  g19 := by kernel_rfl
  i0 := by kernel_rfl
  i2 := by kernel_rfl
  i3 := by kernel_rfl
  i4 := by kernel_rfl
  i5 := by kernel_rfl
  i9 := by kernel_rfl
  i20 := by kernel_rfl
  i37 := by kernel_rfl
  i46 := by kernel_rfl
  i51 := by kernel_rfl
  i53 := by kernel_rfl
  i171 := by kernel_rfl
  i173 := by kernel_rfl
  i212 := by kernel_rfl
  i232 := by kernel_rfl
  i233 := by kernel_rfl
  m17 := by kernel_rfl
  m18 := by kernel_rfl
  m19 := by kernel_rfl }
open Go.RowKit Go.Sort Go.Lib in
/-- strconv.Itoa: "Itoa is equivalent to FormatInt(int64(i), 10).": i's DECIMAL NUMERAL ('Lib.itoa': a '-' where i is negative, then the digits), FOR EVERY int. The world behind the call: the world before it, new blocks behind the heap (the library's 'var a [24]byte'), draws. (LAID: no walk: one application.) -/
theorem Tryd.strconv_Itoa (n : Int) (h0 : -9223372036854775808 ≤ n) (h1 : n ≤ 9223372036854775807) (w : World) (htab : Lib.TabIs Tryd.prog w "internal/strconv.uint64pow10" .u64 Lib.pow10Tab) :
    Calls Tryd.prog 46 #[.int .i64 n] w fun e w' => e = .returned (.string ⟨(Lib.itoa n).toArray⟩) ∧ ∃ k os, w' = grow (w.drewN k) os := Any.strconv_Itoa Tryd.laysM171 n h0 h1 w htab
end Go.Proofs

namespace Go.Proofs.YtkhbnhdlelmbnaaDoor.V
open Go Go.Proofs
abbrev Tab (w : World) : Prop := Lib.TabIs Tryd.prog w "internal/strconv.uint64pow10" .u64 Lib.pow10Tab
abbrev gT : Nat := 1
theorem gPow : Tryd.prog.globalNamed "internal/strconv.uint64pow10" = some gT := by kernel_rfl
theorem Tab.mod {M : List Nat} {w w' : World} (h : Tab w) (k : Mod M w w') (hM : gT ∉ M) : Tab w' := by
  unfold Tab Lib.TabIs World.var? at h ⊢
  simp only [gPow, Option.bind_some] at h ⊢
  have hlt : gT < w.heap.size := by
    rcases Nat.lt_or_ge gT w.heap.size with hl | hl
    · exact hl
    · rw [Array.getElem?_eq_none hl] at h
      cases h
  rw [k.block gT hlt hM]
  exact h
theorem Tab.lt {w : World} (h : Tab w) : gT < w.heap.size := by
  unfold Tab Lib.TabIs World.var? at h
  simp only [gPow, Option.bind_some] at h
  rcases Nat.lt_or_ge gT w.heap.size with hl | hl
  · exact hl
  · rw [Array.getElem?_eq_none hl] at h
    cases h
theorem mod_grow (w : World) (k : Nat) (os : Array Obj) : Mod [] w (Sort.grow (w.drewN k) os) := by
  have h := Lib.below_grow w.heap.size w (Nat.le_refl _) k os
  exact ⟨h.os, h.tape, h.output, h.size, fun i hi _ => h.block i hi⟩
theorem c_itoa (w : World) (n : Int) (h0 : -9223372036854775808 ≤ n) (h1 : n ≤ 9223372036854775807) (hT : Tab w) : Calls Tryd.prog 46 [.int .i64 n].toArray w (Ret fun u w' => u = S (Lib.itoa n) ∧ Mod [] w w') :=
  (Tryd.strconv_Itoa n h0 h1 w hT).mono fun e w' he => by
    obtain ⟨rfl, k, os, rfl⟩ := he
    exact ⟨rfl, mod_grow w k os⟩
end Go.Proofs.YtkhbnhdlelmbnaaDoor.V
