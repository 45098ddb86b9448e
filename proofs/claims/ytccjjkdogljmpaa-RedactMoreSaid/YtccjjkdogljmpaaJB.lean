/-
  A part of the proof: walks of functions, and the plain laws of what they compute. No condition of its own.
-/
import Derived.Test.YtccjjkdogljmpaaJA
import Derived.Test.YtccjjkdogljmpaaUC
set_option linter.unusedVariables false
set_option linter.unusedSimpArgs false
set_option maxRecDepth 10000
namespace Go.Proofs.Ytccjjkdogljmpaa.V
open Go Go.Proofs
theorem ent32 : Ent Try.prog 32 := Ent.of Try.func32 (by kernel_rfl) (by kernel_rfl)
theorem ent21 : Ent Try.prog 21 := Ent.of Try.func21 (by kernel_rfl) (by kernel_rfl)
theorem ent22 : Ent Try.prog 22 := Ent.of Try.func22 (by kernel_rfl) (by kernel_rfl)
theorem ent17 : Ent Try.prog 17 := Ent.of Try.func17 (by kernel_rfl) (by kernel_rfl)
theorem ent24 : Ent Try.prog 24 := Ent.of Try.func24 (by kernel_rfl) (by kernel_rfl)
theorem c_alive12 (w : World) : Calls Try.prog 17 [].toArray w (Ret fun u w' => u = .bool true ∧ Mod [] w w') := by
  refine enter Try.func17 rfl rfl rfl (l := []) trivial ?_
  have E := Mod.refl [] w
  refine c_seq fun K1 hK1 => ?_
  refine c_region ?_
  refine sv (o_as rfl) rfl ?_
  refine l_nil ?_
  refine e_K (hK1 _ _ _ _ ?_)
  refine c_seq fun K2 hK2 => ?_
  refine c_region ?_
  refine sc (o_call ent32 rfl) (c_text _ _) rfl fun v_ w1 h_ => ?_
  obtain ⟨rfl, E_⟩ := h_
  replace E := E.then E_
  refine sv (o_build (cs := [_, _, _, _, _, _, _]) pl49 zv49 rfl rfl) rfl ?_
  refine sc (o_call ent32 rfl) (c_text _ _) rfl fun v_ w2 h_ => ?_
  obtain ⟨rfl, E_⟩ := h_
  replace E := E.then E_
  refine sv (o_build (cs := [_, _, _, _, _, _, _]) pl49 zv49 rfl rfl) rfl ?_
  refine s_bslice (cs := [_, _, _, _, _, _, _, _, _, _, _, _, _, _]) sl36 zv49 rfl rfl rfl (by decide) rfl fun g1 w3 N1 => ?_
  have Lg1_E := N1.le E
  replace E := E.then N1.mod
  have Bg1 := N1.blk
  refine sv (o_build (cs := [_, _, _, _, _, _]) pl38 zv38 rfl rfl) rfl ?_
  have RM := Own.mem_ (A := []) (m := [(JV.kDisp, JV.txt JV.sAnn), (JV.kMemb, JV.txt JV.sJoin)]) (Own.all (c := 2) (cs := [_, _, _, _, _, _, _, _, _, _, _, _, _, _]) Bg1 rfl (by omega)) (by simpa using (JV.Dp_reps (p := (JV.kDisp, JV.txt JV.sAnn)) JV.txt_reps).append (JV.Dp_reps (p := (JV.kMemb, JV.txt JV.sJoin)) JV.txt_reps)) rfl (by simp)
  refine sc (o_call ent21 rfl) (c_content _ k_member JV.ann _ (JV.obj_reps RM) JV.ann_asc (by decide) (by rw [JV.ann_third]; exact List.Pairwise.nil) (by rw [JV.ann_third]; decide)) rfl fun v_ w4 h_ => ?_
  obtain ⟨us2, rfl, Rc, E_⟩ := h_
  replace Bg1 := Bg1.mod0 E_
  replace E := E.then E_
  rw [JV.ann_content] at Rc
  obtain ⟨alc, clc, amc, cmc, rfl, Rlc, Rmc⟩ := JV.cells_ Rc
  obtain ⟨a_x, us_x, ha_x, R_x, hcs_x⟩ := JV.at_m (i := 0) (p := (JV.kMemb, JV.txt JV.sJoin)) Rmc rfl
  obtain ⟨al_x, cl_x, am_x, cm_x, rfl, Rl_x, Rm_x⟩ := JV.cells_ R_x
  obtain rfl := ha_x
  have Ekc := Mod.refl [] w4
  refine s_alloc zv38 rfl fun g2 w5 N2 => ?_
  have Lg2_E := N2.le E
  have Lg2_Ekc := N2.le Ekc
  have Dg1_g2 := N2.ne Bg1
  replace Bg1 := Bg1.mod0 N2.mod
  replace E := E.then N2.mod
  replace Ekc := Ekc.then N2.mod
  have Bg2 := N2.blk
  refine s_sta (vs := [_, _, _, _, _, _]) ag38 Bg2 rfl rfl rfl (by simp [Value.oneCell']) (by simp) fun w6 P6 => ?_
  replace Bg1 := Bg1.ne P6.mod (Ne.symm (Ne.symm Dg1_g2))
  replace E := E.own P6.mod Lg2_E
  replace Ekc := Ekc.own P6.mod Lg2_Ekc
  replace Bg2 : Blk w6 g2 _ [_, _, _, _, _, _] := P6.blk
  refine l_nil ?_
  refine e_K (hK2 _ _ _ _ ?_)
  refine c_seq fun K3 hK3 => ?_
  have hcsE := hcs_x.mod0 Ekc
  refine c_region ?_
  refine sv (o_fa0 fd38_0 rfl) rfl ?_
  refine sv (o_ld sc3 rfl (Bg2.cell rfl)) rfl ?_
  refine sv ((o_eql rfl rfl).to (v' := .bool true) (by simp [JV.kind, JV.obj, JV.map, JV.txt, JV.str])) rfl ?_
  refine sv (o_mv rfl) rfl ?_
  refine sg rfl (rfl) (o_fa0 fd38_5 rfl) rfl ?_
  refine sg rfl (rfl) (o_ld sc36 rfl (Bg2.cell rfl)) rfl ?_
  refine sg rfl (rfl) (o_len Try.underlying36 rfl) rfl ?_
  refine sg rfl (rfl) ((o_eql rfl rfl).to (v' := .bool true) (by simp [JV.kind, JV.obj, JV.map, JV.txt, JV.str])) rfl ?_
  refine sv (o_pickT (rfl) rfl rfl) rfl ?_
  refine sv (o_mv rfl) rfl ?_
  refine sg rfl (rfl) (o_fa0 fd38_5 rfl) rfl ?_
  refine sg rfl (rfl) (o_ld sc36 rfl (Bg2.cell rfl)) rfl ?_
  refine sg rfl (rfl) (o_ix sl36 rfl rfl (by simp [JV.obj, JV.map])) rfl ?_
  refine sg rfl (rfl) (o_fad fd49_0 rfl) rfl ?_
  refine sg rfl (rfl) (o_ld sc9 rfl (hcsE 0 _ rfl)) rfl ?_
  refine sg rfl (rfl) ((o_seq rfl rfl).to (v' := .bool true) (by simp [JV.kind, JV.obj, JV.map, JV.txt, JV.str])) rfl ?_
  refine sv (o_pickT (rfl) rfl rfl) rfl ?_
  refine sv (o_mv rfl) rfl ?_
  refine sg rfl (rfl) (o_fa0 fd38_5 rfl) rfl ?_
  refine sg rfl (rfl) (o_ld sc36 rfl (Bg2.cell rfl)) rfl ?_
  refine sg rfl (rfl) (o_ix sl36 rfl rfl (by simp [JV.obj, JV.map])) rfl ?_
  refine sg rfl (rfl) (o_fad fd49_1 rfl) rfl ?_
  refine sg rfl (rfl) (o_fad fd38_3 rfl) rfl ?_
  refine sg rfl (rfl) (o_ld sc9 rfl (hcsE.tail_ 3 _ rfl)) rfl ?_
  refine sg rfl (rfl) ((o_seq rfl rfl).to (v' := .bool true) (by simp [JV.kind, JV.obj, JV.map, JV.txt, JV.str])) rfl ?_
  refine sv (o_pickT (rfl) rfl rfl) rfl ?_
  refine sv (o_as rfl) rfl ?_
  refine l_nil ?_
  refine e_K (hK3 _ _ _ _ ?_)
  refine c_ret ?_
  exact ret1 rfl rfl ⟨rfl, E⟩

theorem c_RedactContents (w : World) (kind : Str) (v : JV) (us : List Value) (R : Reps [] w v.D us) (hvn : v.map.length ≤ 1353245080310) (htn : v.third.map.length ≤ 1353245080310) : Calls Try.prog 5 [S kind, .agg us.toArray].toArray w (Ret fun u w' => u = .bool true ∧ Mod [] w w') := by
  refine enter Try.func5 rfl rfl rfl (l := [(0, _), (1, _)]) ⟨rfl, rfl, trivial⟩ ?_
  have E := Mod.refl [] w
  obtain ⟨al, cl, am, cm, rfl, Rl, Rm⟩ := JV.cells_ R
  have R := JV.reps_ Rl Rm
  refine c_seq fun K1 hK1 => ?_
  refine c_region ?_
  refine s_box rfl rfl rfl fun g1 w1 N1 => ?_
  have Lg1_E := N1.le E
  replace E := E.then N1.mod
  have Bg1 := N1.blk
  refine sv (o_as rfl) rfl ?_
  refine l_nil ?_
  refine e_K (hK1 _ _ _ _ ?_)
  refine c_seq fun K2 hK2 => ?_
  refine c_seq fun K3 hK3 => ?_
  refine c_region ?_
  refine sc (o_call ent17 rfl) (c_alive12 _) rfl fun v_ w2 h_ => ?_
  obtain ⟨rfl, E_⟩ := h_
  replace Bg1 := Bg1.mod0 E_
  replace E := E.then E_
  refine sv (o_not rfl) rfl ?_
  refine l_nil ?_
  refine e_K (hK3 _ _ _ _ ?_)
  refine c_false rfl ?_
  refine c_skip ?_
  refine e_K (hK2 _ _ _ _ ?_)
  refine c_seq fun K4 hK4 => ?_
  refine c_seq fun K5 hK5 => ?_
  by_cases hs3_0 : (kind.length : Int) > 1024
  · skip
    refine c_region ?_
    refine sv (o_mv rfl) rfl ?_
    refine sv (o_slen Try.underlying9 rfl) rfl ?_
    refine sv (o_gtr rfl rfl) rfl ?_
    refine sv (o_mv rfl) rfl ?_
    refine sn rfl (fun e_ => absurd ((decide_eq_true hs3_0).symm.trans e_) (by decide)) rfl ?_
    refine sn rfl (fun e_ => absurd ((decide_eq_true hs3_0).symm.trans e_) (by decide)) rfl ?_
    refine sn rfl (fun e_ => absurd ((decide_eq_true hs3_0).symm.trans e_) (by decide)) rfl ?_
    refine sv (o_pickT (decide_eq_true hs3_0) rfl rfl) rfl ?_
    refine sv (o_mv rfl) rfl ?_
    refine sn rfl (fun e_ => absurd ((rfl).symm.trans e_) (by decide)) rfl ?_
    refine sn rfl (fun e_ => absurd ((rfl).symm.trans e_) (by decide)) rfl ?_
    refine sn rfl (fun e_ => absurd ((rfl).symm.trans e_) (by decide)) rfl ?_
    refine sv (o_pickT (rfl) rfl rfl) rfl ?_
    refine l_nil ?_
    refine e_K (hK5 _ _ _ _ ?_)
    refine c_true rfl ?_
    refine c_seq fun K6 hK6 => ?_
    refine c_region ?_
    refine sv (o_as rfl) rfl ?_
    refine l_nil ?_
    refine e_K (hK6 _ _ _ _ ?_)
    refine c_ret ?_
    refine e_then (by simp) ?_
    exact ret1 rfl rfl ⟨rfl, E⟩
  · skip
    by_cases hs3_1 : v.weigh 8192 60 < 0
    · skip
      refine c_region ?_
      refine sv (o_mv rfl) rfl ?_
      refine sv (o_slen Try.underlying9 rfl) rfl ?_
      refine sv (o_gtr rfl rfl) rfl ?_
      refine sv (o_mv rfl) rfl ?_
      refine sg rfl (decide_eq_false hs3_0) (o_lda (vs := [_, _, _, _, _, _]) ag38 rfl rfl (Bg1.cs rfl)) rfl ?_
      refine sgc rfl (decide_eq_false hs3_0) (o_call ent18 rfl) (c_weigh _ v _ 8192 60 (R.to0 E)) rfl fun v_ w3 h_ => ?_
      obtain ⟨rfl, E_⟩ := h_
      replace Bg1 := Bg1.mod0 E_
      replace E := E.then E_
      refine sg rfl (decide_eq_false hs3_0) (o_lss rfl rfl) rfl ?_
      refine sv (o_pickF (decide_eq_false hs3_0) rfl rfl) rfl ?_
      refine sv (o_mv rfl) rfl ?_
      refine sn rfl (fun e_ => absurd ((decide_eq_true hs3_1).symm.trans e_) (by decide)) rfl ?_
      refine sn rfl (fun e_ => absurd ((decide_eq_true hs3_1).symm.trans e_) (by decide)) rfl ?_
      refine sn rfl (fun e_ => absurd ((decide_eq_true hs3_1).symm.trans e_) (by decide)) rfl ?_
      refine sv (o_pickT (decide_eq_true hs3_1) rfl rfl) rfl ?_
      refine l_nil ?_
      refine e_K (hK5 _ _ _ _ ?_)
      refine c_true rfl ?_
      refine c_seq fun K7 hK7 => ?_
      refine c_region ?_
      refine sv (o_as rfl) rfl ?_
      refine l_nil ?_
      refine e_K (hK7 _ _ _ _ ?_)
      refine c_ret ?_
      refine e_then (by simp) ?_
      exact ret1 rfl rfl ⟨rfl, E⟩
    · skip
      by_cases hs3_2 : (!v.rises) = true
      · skip
        refine c_region ?_
        refine sv (o_mv rfl) rfl ?_
        refine sv (o_slen Try.underlying9 rfl) rfl ?_
        refine sv (o_gtr rfl rfl) rfl ?_
        refine sv (o_mv rfl) rfl ?_
        refine sg rfl (decide_eq_false hs3_0) (o_lda (vs := [_, _, _, _, _, _]) ag38 rfl rfl (Bg1.cs rfl)) rfl ?_
        refine sgc rfl (decide_eq_false hs3_0) (o_call ent18 rfl) (c_weigh _ v _ 8192 60 (R.to0 E)) rfl fun v_ w4 h_ => ?_
        obtain ⟨rfl, E_⟩ := h_
        replace Bg1 := Bg1.mod0 E_
        replace E := E.then E_
        refine sg rfl (decide_eq_false hs3_0) (o_lss rfl rfl) rfl ?_
        refine sv (o_pickF (decide_eq_false hs3_0) rfl rfl) rfl ?_
        refine sv (o_mv rfl) rfl ?_
        refine sg rfl (decide_eq_false hs3_1) (o_lda (vs := [_, _, _, _, _, _]) ag38 rfl rfl (Bg1.cs rfl)) rfl ?_
        refine sgc rfl (decide_eq_false hs3_1) (o_call ent19 rfl) (c_rises _ v _ (R.to0 E)) rfl fun v_ w5 h_ => ?_
        obtain ⟨rfl, E_⟩ := h_
        replace Bg1 := Bg1.mod0 E_
        replace E := E.then E_
        refine sg rfl (decide_eq_false hs3_1) (o_not rfl) rfl ?_
        refine sv (o_pickF (decide_eq_false hs3_1) rfl rfl) rfl ?_
        refine l_nil ?_
        refine e_K (hK5 _ _ _ _ ?_)
        refine c_cond rfl (fun h19 => ?_) (fun h19 => absurd ((hs3_2).symm.trans h19) (by decide))
        refine c_seq fun K8 hK8 => ?_
        refine c_region ?_
        refine sv (o_as rfl) rfl ?_
        refine l_nil ?_
        refine e_K (hK8 _ _ _ _ ?_)
        refine c_ret ?_
        refine e_then (by simp) ?_
        exact ret1 rfl rfl ⟨rfl, E⟩
      · skip
        refine c_region ?_
        refine sv (o_mv rfl) rfl ?_
        refine sv (o_slen Try.underlying9 rfl) rfl ?_
        refine sv (o_gtr rfl rfl) rfl ?_
        refine sv (o_mv rfl) rfl ?_
        refine sg rfl (decide_eq_false hs3_0) (o_lda (vs := [_, _, _, _, _, _]) ag38 rfl rfl (Bg1.cs rfl)) rfl ?_
        refine sgc rfl (decide_eq_false hs3_0) (o_call ent18 rfl) (c_weigh _ v _ 8192 60 (R.to0 E)) rfl fun v_ w6 h_ => ?_
        obtain ⟨rfl, E_⟩ := h_
        replace Bg1 := Bg1.mod0 E_
        replace E := E.then E_
        refine sg rfl (decide_eq_false hs3_0) (o_lss rfl rfl) rfl ?_
        refine sv (o_pickF (decide_eq_false hs3_0) rfl rfl) rfl ?_
        refine sv (o_mv rfl) rfl ?_
        refine sg rfl (decide_eq_false hs3_1) (o_lda (vs := [_, _, _, _, _, _]) ag38 rfl rfl (Bg1.cs rfl)) rfl ?_
        refine sgc rfl (decide_eq_false hs3_1) (o_call ent19 rfl) (c_rises _ v _ (R.to0 E)) rfl fun v_ w7 h_ => ?_
        obtain ⟨rfl, E_⟩ := h_
        replace Bg1 := Bg1.mod0 E_
        replace E := E.then E_
        refine sg rfl (decide_eq_false hs3_1) (o_not rfl) rfl ?_
        refine sv (o_pickF (decide_eq_false hs3_1) rfl rfl) rfl ?_
        refine l_nil ?_
        refine e_K (hK5 _ _ _ _ ?_)
        refine c_cond rfl (fun h19 => absurd ((Bool.eq_false_iff.2 hs3_2).symm.trans h19) (by decide)) (fun h19 => ?_)
        refine c_skip ?_
        refine e_K (hK4 _ _ _ _ ?_)
        refine c_seq fun K9 hK9 => ?_
        have hr : v.Rise := JV.rises_iff.1 (by simpa using hs3_2)
        have hva : ascM v.map := ((JV.Rise_eq v).1 hr).1
        have hta : ascM v.third.map := (JV.third_asc hr)
        have hceq := JV.content_eq (kind := kind) hva
        refine c_draw wide (by kernel_rfl) ?_
        refine tv (fun w_ E_ => (o_mv rfl)) rfl rfl ?_
        refine tv (fun w_ E_ => (o_lda (vs := [_, _, _, _, _, _]) ag38 rfl rfl ((Bg1.mod0 E_).cs rfl))) rfl rfl ?_
        refine tcr (fun u w_ => ∃ us, u = .agg us.toArray ∧ Reps [] w_ (JV.content kind v).D us) (fun v_ w1_ w2_ k_ h_ => by obtain ⟨us_, e_, r_⟩ := h_; exact ⟨us_, e_, r_.to0 k_⟩) (fun w_ E_ => o_call ent21 rfl) (fun w_ E_ => Calls.imp (c_content _ kind v _ (R.to0 (E.then E_)) hva hvn hta htn) fun r_ w2_ hr => by obtain ⟨us_, e_, r2_, k_⟩ := hr; exact ⟨⟨us_, e_, r2_⟩, k_⟩) rfl rfl rfl ?_
        refine tv (fun w_ E_ => (o_mv rfl)) rfl rfl ?_
        refine tv (fun w_ E_ => (o_lda (vs := [_, _, _, _, _, _]) ag38 rfl rfl ((Bg1.mod0 E_).cs rfl))) rfl rfl ?_
        refine tcr (fun u w_ => ∃ us, u = .agg us.toArray ∧ Reps [] w_ (JV.contentR kind v).D us) (fun v_ w1_ w2_ k_ h_ => by obtain ⟨us_, e_, r_⟩ := h_; exact ⟨us_, e_, r_.to0 k_⟩) (fun w_ E_ => o_call ent22 rfl) (fun w_ E_ => Calls.imp (c_contentR _ kind v _ (R.to0 (E.then E_)) hvn) fun r_ w2_ hr => by obtain ⟨us_, e_, r2_, k_⟩ := hr; exact ⟨⟨us_, e_, r2_⟩, k_⟩) rfl rfl rfl ?_
        refine tc2 (args := fun u_ v_ => [u_, v_].toArray) (v := .bool true) 22 25 rfl rfl ⟨_, List.Mem.tail _ (List.Mem.head _), rfl⟩ rfl rfl ⟨_, List.Mem.tail _ (List.Mem.tail _ (List.Mem.head _)), rfl⟩ (fun w_ u_ v_ E_ h_ h2_ => o_call ent20 rfl) (fun w_ u_ v_ E_ h_ h2_ => by
          obtain ⟨us_, rfl, r_⟩ := h_
          obtain ⟨vs_, rfl, r2_⟩ := h2_
          exact Calls.imp (c_same _ _ _ _ _ r_ r2_) fun r_ w2_ hr => ⟨hr.1.trans (by rw [hceq, JV.eqJ_self]), hr.2⟩) rfl rfl ?_
        refine tv (fun w_ E_ => (o_as rfl)) rfl rfl ?_
        refine tw_nil rfl fun w8 E_ => ?_
        replace Bg1 := Bg1.mod0 E_
        replace E := E.then E_
        refine e_K (hK9 _ _ _ _ ?_)
        refine c_ret ?_
        exact ret1 rfl rfl ⟨rfl, E⟩

theorem c_RedactMore (w : World) (kind : Str) (v : JV) (us : List Value) (R : Reps [] w v.D us) (key : Str) (x : JV) (zs : List Value) (Rx : Reps [] w x.D zs) (hvn : v.map.length ≤ 1353245080300) (htn : v.third.map.length ≤ 1353245080310) : Calls Try.prog 6 [S kind, .agg us.toArray, S key, .agg zs.toArray].toArray w (Ret fun u w' => u = .bool true ∧ Mod [] w w') := by
  refine enter Try.func6 rfl rfl rfl (l := [(0, _), (1, _), (2, _), (3, _)]) ⟨rfl, rfl, rfl, rfl, trivial⟩ ?_
  have E := Mod.refl [] w
  obtain ⟨al, cl, am, cm, rfl, Rl, Rm⟩ := JV.cells_ R
  have R := JV.reps_ Rl Rm
  obtain ⟨alx, clx, amx, cmx, rfl, Rlx, Rmx⟩ := JV.cells_ Rx
  have Rx := JV.reps_ Rlx Rmx
  refine c_seq fun K1 hK1 => ?_
  refine c_region ?_
  refine s_box rfl rfl rfl fun g1 w1 N1 => ?_
  have Lg1_E := N1.le E
  replace E := E.then N1.mod
  have Bg1 := N1.blk
  refine s_box rfl rfl rfl fun g2 w2 N2 => ?_
  have Lg2_E := N2.le E
  have Dg1_g2 := N2.ne Bg1
  replace Bg1 := Bg1.mod0 N2.mod
  replace E := E.then N2.mod
  have Bg2 := N2.blk
  refine sv (o_as rfl) rfl ?_
  refine l_nil ?_
  refine e_K (hK1 _ _ _ _ ?_)
  refine c_seq fun K2 hK2 => ?_
  refine c_seq fun K3 hK3 => ?_
  refine c_region ?_
  refine sc (o_call ent17 rfl) (c_alive12 _) rfl fun v_ w3 h_ => ?_
  obtain ⟨rfl, E_⟩ := h_
  replace Bg1 := Bg1.mod0 E_
  replace Bg2 := Bg2.mod0 E_
  replace E := E.then E_
  refine sv (o_not rfl) rfl ?_
  refine l_nil ?_
  refine e_K (hK3 _ _ _ _ ?_)
  refine c_false rfl ?_
  refine c_skip ?_
  refine e_K (hK2 _ _ _ _ ?_)
  refine c_seq fun K4 hK4 => ?_
  refine c_seq fun K5 hK5 => ?_
  by_cases hs3_0 : (kind.length : Int) > 1024
  · skip
    refine c_region ?_
    refine sv (o_mv rfl) rfl ?_
    refine sv (o_slen Try.underlying9 rfl) rfl ?_
    refine sv (o_gtr rfl rfl) rfl ?_
    refine sv (o_mv rfl) rfl ?_
    refine sn rfl (fun e_ => absurd ((decide_eq_true hs3_0).symm.trans e_) (by decide)) rfl ?_
    refine sn rfl (fun e_ => absurd ((decide_eq_true hs3_0).symm.trans e_) (by decide)) rfl ?_
    refine sn rfl (fun e_ => absurd ((decide_eq_true hs3_0).symm.trans e_) (by decide)) rfl ?_
    refine sv (o_pickT (decide_eq_true hs3_0) rfl rfl) rfl ?_
    refine sv (o_mv rfl) rfl ?_
    refine sn rfl (fun e_ => absurd ((rfl).symm.trans e_) (by decide)) rfl ?_
    refine sn rfl (fun e_ => absurd ((rfl).symm.trans e_) (by decide)) rfl ?_
    refine sn rfl (fun e_ => absurd ((rfl).symm.trans e_) (by decide)) rfl ?_
    refine sv (o_pickT (rfl) rfl rfl) rfl ?_
    refine sv (o_mv rfl) rfl ?_
    refine sn rfl (fun e_ => absurd ((rfl).symm.trans e_) (by decide)) rfl ?_
    refine sn rfl (fun e_ => absurd ((rfl).symm.trans e_) (by decide)) rfl ?_
    refine sn rfl (fun e_ => absurd ((rfl).symm.trans e_) (by decide)) rfl ?_
    refine sv (o_pickT (rfl) rfl rfl) rfl ?_
    refine sv (o_mv rfl) rfl ?_
    refine sn rfl (fun e_ => absurd ((rfl).symm.trans e_) (by decide)) rfl ?_
    refine sn rfl (fun e_ => absurd ((rfl).symm.trans e_) (by decide)) rfl ?_
    refine sn rfl (fun e_ => absurd ((rfl).symm.trans e_) (by decide)) rfl ?_
    refine sv (o_pickT (rfl) rfl rfl) rfl ?_
    refine sv (o_mv rfl) rfl ?_
    refine sn rfl (fun e_ => absurd ((rfl).symm.trans e_) (by decide)) rfl ?_
    refine sn rfl (fun e_ => absurd ((rfl).symm.trans e_) (by decide)) rfl ?_
    refine sn rfl (fun e_ => absurd ((rfl).symm.trans e_) (by decide)) rfl ?_
    refine sv (o_pickT (rfl) rfl rfl) rfl ?_
    refine sv (o_mv rfl) rfl ?_
    refine sn rfl (fun e_ => absurd ((rfl).symm.trans e_) (by decide)) rfl ?_
    refine sn rfl (fun e_ => absurd ((rfl).symm.trans e_) (by decide)) rfl ?_
    refine sv (o_pickT (rfl) rfl rfl) rfl ?_
    refine sv (o_mv rfl) rfl ?_
    refine sn rfl (fun e_ => absurd ((rfl).symm.trans e_) (by decide)) rfl ?_
    refine sn rfl (fun e_ => absurd ((rfl).symm.trans e_) (by decide)) rfl ?_
    refine sn rfl (fun e_ => absurd ((rfl).symm.trans e_) (by decide)) rfl ?_
    refine sv (o_pickT (rfl) rfl rfl) rfl ?_
    refine l_nil ?_
    refine e_K (hK5 _ _ _ _ ?_)
    refine c_true rfl ?_
    refine c_seq fun K6 hK6 => ?_
    refine c_region ?_
    refine sv (o_as rfl) rfl ?_
    refine l_nil ?_
    refine e_K (hK6 _ _ _ _ ?_)
    refine c_ret ?_
    refine e_then (by simp) ?_
    exact ret1 rfl rfl ⟨rfl, E⟩
  · skip
    by_cases hs3_1 : (key.length : Int) > 1024
    · skip
      refine c_region ?_
      refine sv (o_mv rfl) rfl ?_
      refine sv (o_slen Try.underlying9 rfl) rfl ?_
      refine sv (o_gtr rfl rfl) rfl ?_
      refine sv (o_mv rfl) rfl ?_
      refine sg rfl (decide_eq_false hs3_0) (o_mv rfl) rfl ?_
      refine sg rfl (decide_eq_false hs3_0) (o_slen Try.underlying9 rfl) rfl ?_
      refine sg rfl (decide_eq_false hs3_0) (o_gtr rfl rfl) rfl ?_
      refine sv (o_pickF (decide_eq_false hs3_0) rfl rfl) rfl ?_
      refine sv (o_mv rfl) rfl ?_
      refine sn rfl (fun e_ => absurd ((decide_eq_true hs3_1).symm.trans e_) (by decide)) rfl ?_
      refine sn rfl (fun e_ => absurd ((decide_eq_true hs3_1).symm.trans e_) (by decide)) rfl ?_
      refine sn rfl (fun e_ => absurd ((decide_eq_true hs3_1).symm.trans e_) (by decide)) rfl ?_
      refine sv (o_pickT (decide_eq_true hs3_1) rfl rfl) rfl ?_
      refine sv (o_mv rfl) rfl ?_
      refine sn rfl (fun e_ => absurd ((rfl).symm.trans e_) (by decide)) rfl ?_
      refine sn rfl (fun e_ => absurd ((rfl).symm.trans e_) (by decide)) rfl ?_
      refine sn rfl (fun e_ => absurd ((rfl).symm.trans e_) (by decide)) rfl ?_
      refine sv (o_pickT (rfl) rfl rfl) rfl ?_
      refine sv (o_mv rfl) rfl ?_
      refine sn rfl (fun e_ => absurd ((rfl).symm.trans e_) (by decide)) rfl ?_
      refine sn rfl (fun e_ => absurd ((rfl).symm.trans e_) (by decide)) rfl ?_
      refine sn rfl (fun e_ => absurd ((rfl).symm.trans e_) (by decide)) rfl ?_
      refine sv (o_pickT (rfl) rfl rfl) rfl ?_
      refine sv (o_mv rfl) rfl ?_
      refine sn rfl (fun e_ => absurd ((rfl).symm.trans e_) (by decide)) rfl ?_
      refine sn rfl (fun e_ => absurd ((rfl).symm.trans e_) (by decide)) rfl ?_
      refine sn rfl (fun e_ => absurd ((rfl).symm.trans e_) (by decide)) rfl ?_
      refine sv (o_pickT (rfl) rfl rfl) rfl ?_
      refine sv (o_mv rfl) rfl ?_
      refine sn rfl (fun e_ => absurd ((rfl).symm.trans e_) (by decide)) rfl ?_
      refine sn rfl (fun e_ => absurd ((rfl).symm.trans e_) (by decide)) rfl ?_
      refine sv (o_pickT (rfl) rfl rfl) rfl ?_
      refine sv (o_mv rfl) rfl ?_
      refine sn rfl (fun e_ => absurd ((rfl).symm.trans e_) (by decide)) rfl ?_
      refine sn rfl (fun e_ => absurd ((rfl).symm.trans e_) (by decide)) rfl ?_
      refine sn rfl (fun e_ => absurd ((rfl).symm.trans e_) (by decide)) rfl ?_
      refine sv (o_pickT (rfl) rfl rfl) rfl ?_
      refine l_nil ?_
      refine e_K (hK5 _ _ _ _ ?_)
      refine c_true rfl ?_
      refine c_seq fun K7 hK7 => ?_
      refine c_region ?_
      refine sv (o_as rfl) rfl ?_
      refine l_nil ?_
      refine e_K (hK7 _ _ _ _ ?_)
      refine c_ret ?_
      refine e_then (by simp) ?_
      exact ret1 rfl rfl ⟨rfl, E⟩
    · skip
      by_cases hs3_2 : v.weigh 8192 60 < 0
      · skip
        refine c_region ?_
        refine sv (o_mv rfl) rfl ?_
        refine sv (o_slen Try.underlying9 rfl) rfl ?_
        refine sv (o_gtr rfl rfl) rfl ?_
        refine sv (o_mv rfl) rfl ?_
        refine sg rfl (decide_eq_false hs3_0) (o_mv rfl) rfl ?_
        refine sg rfl (decide_eq_false hs3_0) (o_slen Try.underlying9 rfl) rfl ?_
        refine sg rfl (decide_eq_false hs3_0) (o_gtr rfl rfl) rfl ?_
        refine sv (o_pickF (decide_eq_false hs3_0) rfl rfl) rfl ?_
        refine sv (o_mv rfl) rfl ?_
        refine sg rfl (decide_eq_false hs3_1) (o_lda (vs := [_, _, _, _, _, _]) ag38 rfl rfl (Bg1.cs rfl)) rfl ?_
        refine sgc rfl (decide_eq_false hs3_1) (o_call ent18 rfl) (c_weigh _ v _ 8192 60 (R.to0 E)) rfl fun v_ w4 h_ => ?_
        obtain ⟨rfl, E_⟩ := h_
        replace Bg1 := Bg1.mod0 E_
        replace Bg2 := Bg2.mod0 E_
        replace E := E.then E_
        refine sg rfl (decide_eq_false hs3_1) (o_lss rfl rfl) rfl ?_
        refine sv (o_pickF (decide_eq_false hs3_1) rfl rfl) rfl ?_
        refine sv (o_mv rfl) rfl ?_
        refine sn rfl (fun e_ => absurd ((decide_eq_true hs3_2).symm.trans e_) (by decide)) rfl ?_
        refine sn rfl (fun e_ => absurd ((decide_eq_true hs3_2).symm.trans e_) (by decide)) rfl ?_
        refine sn rfl (fun e_ => absurd ((decide_eq_true hs3_2).symm.trans e_) (by decide)) rfl ?_
        refine sv (o_pickT (decide_eq_true hs3_2) rfl rfl) rfl ?_
        refine sv (o_mv rfl) rfl ?_
        refine sn rfl (fun e_ => absurd ((rfl).symm.trans e_) (by decide)) rfl ?_
        refine sn rfl (fun e_ => absurd ((rfl).symm.trans e_) (by decide)) rfl ?_
        refine sn rfl (fun e_ => absurd ((rfl).symm.trans e_) (by decide)) rfl ?_
        refine sv (o_pickT (rfl) rfl rfl) rfl ?_
        refine sv (o_mv rfl) rfl ?_
        refine sn rfl (fun e_ => absurd ((rfl).symm.trans e_) (by decide)) rfl ?_
        refine sn rfl (fun e_ => absurd ((rfl).symm.trans e_) (by decide)) rfl ?_
        refine sn rfl (fun e_ => absurd ((rfl).symm.trans e_) (by decide)) rfl ?_
        refine sv (o_pickT (rfl) rfl rfl) rfl ?_
        refine sv (o_mv rfl) rfl ?_
        refine sn rfl (fun e_ => absurd ((rfl).symm.trans e_) (by decide)) rfl ?_
        refine sn rfl (fun e_ => absurd ((rfl).symm.trans e_) (by decide)) rfl ?_
        refine sv (o_pickT (rfl) rfl rfl) rfl ?_
        refine sv (o_mv rfl) rfl ?_
        refine sn rfl (fun e_ => absurd ((rfl).symm.trans e_) (by decide)) rfl ?_
        refine sn rfl (fun e_ => absurd ((rfl).symm.trans e_) (by decide)) rfl ?_
        refine sn rfl (fun e_ => absurd ((rfl).symm.trans e_) (by decide)) rfl ?_
        refine sv (o_pickT (rfl) rfl rfl) rfl ?_
        refine l_nil ?_
        refine e_K (hK5 _ _ _ _ ?_)
        refine c_true rfl ?_
        refine c_seq fun K8 hK8 => ?_
        refine c_region ?_
        refine sv (o_as rfl) rfl ?_
        refine l_nil ?_
        refine e_K (hK8 _ _ _ _ ?_)
        refine c_ret ?_
        refine e_then (by simp) ?_
        exact ret1 rfl rfl ⟨rfl, E⟩
      · skip
        by_cases hs3_3 : x.weigh 8192 60 < 0
        · skip
          refine c_region ?_
          refine sv (o_mv rfl) rfl ?_
          refine sv (o_slen Try.underlying9 rfl) rfl ?_
          refine sv (o_gtr rfl rfl) rfl ?_
          refine sv (o_mv rfl) rfl ?_
          refine sg rfl (decide_eq_false hs3_0) (o_mv rfl) rfl ?_
          refine sg rfl (decide_eq_false hs3_0) (o_slen Try.underlying9 rfl) rfl ?_
          refine sg rfl (decide_eq_false hs3_0) (o_gtr rfl rfl) rfl ?_
          refine sv (o_pickF (decide_eq_false hs3_0) rfl rfl) rfl ?_
          refine sv (o_mv rfl) rfl ?_
          refine sg rfl (decide_eq_false hs3_1) (o_lda (vs := [_, _, _, _, _, _]) ag38 rfl rfl (Bg1.cs rfl)) rfl ?_
          refine sgc rfl (decide_eq_false hs3_1) (o_call ent18 rfl) (c_weigh _ v _ 8192 60 (R.to0 E)) rfl fun v_ w5 h_ => ?_
          obtain ⟨rfl, E_⟩ := h_
          replace Bg1 := Bg1.mod0 E_
          replace Bg2 := Bg2.mod0 E_
          replace E := E.then E_
          refine sg rfl (decide_eq_false hs3_1) (o_lss rfl rfl) rfl ?_
          refine sv (o_pickF (decide_eq_false hs3_1) rfl rfl) rfl ?_
          refine sv (o_mv rfl) rfl ?_
          refine sg rfl (decide_eq_false hs3_2) (o_lda (vs := [_, _, _, _, _, _]) ag38 rfl rfl (Bg2.cs rfl)) rfl ?_
          refine sgc rfl (decide_eq_false hs3_2) (o_call ent18 rfl) (c_weigh _ x _ 8192 60 (Rx.to0 E)) rfl fun v_ w6 h_ => ?_
          obtain ⟨rfl, E_⟩ := h_
          replace Bg1 := Bg1.mod0 E_
          replace Bg2 := Bg2.mod0 E_
          replace E := E.then E_
          refine sg rfl (decide_eq_false hs3_2) (o_lss rfl rfl) rfl ?_
          refine sv (o_pickF (decide_eq_false hs3_2) rfl rfl) rfl ?_
          refine sv (o_mv rfl) rfl ?_
          refine sn rfl (fun e_ => absurd ((decide_eq_true hs3_3).symm.trans e_) (by decide)) rfl ?_
          refine sn rfl (fun e_ => absurd ((decide_eq_true hs3_3).symm.trans e_) (by decide)) rfl ?_
          refine sn rfl (fun e_ => absurd ((decide_eq_true hs3_3).symm.trans e_) (by decide)) rfl ?_
          refine sv (o_pickT (decide_eq_true hs3_3) rfl rfl) rfl ?_
          refine sv (o_mv rfl) rfl ?_
          refine sn rfl (fun e_ => absurd ((rfl).symm.trans e_) (by decide)) rfl ?_
          refine sn rfl (fun e_ => absurd ((rfl).symm.trans e_) (by decide)) rfl ?_
          refine sn rfl (fun e_ => absurd ((rfl).symm.trans e_) (by decide)) rfl ?_
          refine sv (o_pickT (rfl) rfl rfl) rfl ?_
          refine sv (o_mv rfl) rfl ?_
          refine sn rfl (fun e_ => absurd ((rfl).symm.trans e_) (by decide)) rfl ?_
          refine sn rfl (fun e_ => absurd ((rfl).symm.trans e_) (by decide)) rfl ?_
          refine sv (o_pickT (rfl) rfl rfl) rfl ?_
          refine sv (o_mv rfl) rfl ?_
          refine sn rfl (fun e_ => absurd ((rfl).symm.trans e_) (by decide)) rfl ?_
          refine sn rfl (fun e_ => absurd ((rfl).symm.trans e_) (by decide)) rfl ?_
          refine sn rfl (fun e_ => absurd ((rfl).symm.trans e_) (by decide)) rfl ?_
          refine sv (o_pickT (rfl) rfl rfl) rfl ?_
          refine l_nil ?_
          refine e_K (hK5 _ _ _ _ ?_)
          refine c_true rfl ?_
          refine c_seq fun K9 hK9 => ?_
          refine c_region ?_
          refine sv (o_as rfl) rfl ?_
          refine l_nil ?_
          refine e_K (hK9 _ _ _ _ ?_)
          refine c_ret ?_
          refine e_then (by simp) ?_
          exact ret1 rfl rfl ⟨rfl, E⟩
        · skip
          by_cases hs3_4 : (!v.rises) = true
          · skip
            refine c_region ?_
            refine sv (o_mv rfl) rfl ?_
            refine sv (o_slen Try.underlying9 rfl) rfl ?_
            refine sv (o_gtr rfl rfl) rfl ?_
            refine sv (o_mv rfl) rfl ?_
            refine sg rfl (decide_eq_false hs3_0) (o_mv rfl) rfl ?_
            refine sg rfl (decide_eq_false hs3_0) (o_slen Try.underlying9 rfl) rfl ?_
            refine sg rfl (decide_eq_false hs3_0) (o_gtr rfl rfl) rfl ?_
            refine sv (o_pickF (decide_eq_false hs3_0) rfl rfl) rfl ?_
            refine sv (o_mv rfl) rfl ?_
            refine sg rfl (decide_eq_false hs3_1) (o_lda (vs := [_, _, _, _, _, _]) ag38 rfl rfl (Bg1.cs rfl)) rfl ?_
            refine sgc rfl (decide_eq_false hs3_1) (o_call ent18 rfl) (c_weigh _ v _ 8192 60 (R.to0 E)) rfl fun v_ w7 h_ => ?_
            obtain ⟨rfl, E_⟩ := h_
            replace Bg1 := Bg1.mod0 E_
            replace Bg2 := Bg2.mod0 E_
            replace E := E.then E_
            refine sg rfl (decide_eq_false hs3_1) (o_lss rfl rfl) rfl ?_
            refine sv (o_pickF (decide_eq_false hs3_1) rfl rfl) rfl ?_
            refine sv (o_mv rfl) rfl ?_
            refine sg rfl (decide_eq_false hs3_2) (o_lda (vs := [_, _, _, _, _, _]) ag38 rfl rfl (Bg2.cs rfl)) rfl ?_
            refine sgc rfl (decide_eq_false hs3_2) (o_call ent18 rfl) (c_weigh _ x _ 8192 60 (Rx.to0 E)) rfl fun v_ w8 h_ => ?_
            obtain ⟨rfl, E_⟩ := h_
            replace Bg1 := Bg1.mod0 E_
            replace Bg2 := Bg2.mod0 E_
            replace E := E.then E_
            refine sg rfl (decide_eq_false hs3_2) (o_lss rfl rfl) rfl ?_
            refine sv (o_pickF (decide_eq_false hs3_2) rfl rfl) rfl ?_
            refine sv (o_mv rfl) rfl ?_
            refine sg rfl (decide_eq_false hs3_3) (o_lda (vs := [_, _, _, _, _, _]) ag38 rfl rfl (Bg1.cs rfl)) rfl ?_
            refine sgc rfl (decide_eq_false hs3_3) (o_call ent19 rfl) (c_rises _ v _ (R.to0 E)) rfl fun v_ w9 h_ => ?_
            obtain ⟨rfl, E_⟩ := h_
            replace Bg1 := Bg1.mod0 E_
            replace Bg2 := Bg2.mod0 E_
            replace E := E.then E_
            refine sg rfl (decide_eq_false hs3_3) (o_not rfl) rfl ?_
            refine sv (o_pickF (decide_eq_false hs3_3) rfl rfl) rfl ?_
            refine sv (o_mv rfl) rfl ?_
            refine sn rfl (fun e_ => absurd ((hs3_4).symm.trans e_) (by decide)) rfl ?_
            refine sn rfl (fun e_ => absurd ((hs3_4).symm.trans e_) (by decide)) rfl ?_
            refine sn rfl (fun e_ => absurd ((hs3_4).symm.trans e_) (by decide)) rfl ?_
            refine sv (o_pickT (hs3_4) rfl rfl) rfl ?_
            refine sv (o_mv rfl) rfl ?_
            refine sn rfl (fun e_ => absurd ((rfl).symm.trans e_) (by decide)) rfl ?_
            refine sn rfl (fun e_ => absurd ((rfl).symm.trans e_) (by decide)) rfl ?_
            refine sv (o_pickT (rfl) rfl rfl) rfl ?_
            refine sv (o_mv rfl) rfl ?_
            refine sn rfl (fun e_ => absurd ((rfl).symm.trans e_) (by decide)) rfl ?_
            refine sn rfl (fun e_ => absurd ((rfl).symm.trans e_) (by decide)) rfl ?_
            refine sn rfl (fun e_ => absurd ((rfl).symm.trans e_) (by decide)) rfl ?_
            refine sv (o_pickT (rfl) rfl rfl) rfl ?_
            refine l_nil ?_
            refine e_K (hK5 _ _ _ _ ?_)
            refine c_true rfl ?_
            refine c_seq fun K10 hK10 => ?_
            refine c_region ?_
            refine sv (o_as rfl) rfl ?_
            refine l_nil ?_
            refine e_K (hK10 _ _ _ _ ?_)
            refine c_ret ?_
            refine e_then (by simp) ?_
            exact ret1 rfl rfl ⟨rfl, E⟩
          · skip
            by_cases hs3_5 : (!x.rises) = true
            · skip
              refine c_region ?_
              refine sv (o_mv rfl) rfl ?_
              refine sv (o_slen Try.underlying9 rfl) rfl ?_
              refine sv (o_gtr rfl rfl) rfl ?_
              refine sv (o_mv rfl) rfl ?_
              refine sg rfl (decide_eq_false hs3_0) (o_mv rfl) rfl ?_
              refine sg rfl (decide_eq_false hs3_0) (o_slen Try.underlying9 rfl) rfl ?_
              refine sg rfl (decide_eq_false hs3_0) (o_gtr rfl rfl) rfl ?_
              refine sv (o_pickF (decide_eq_false hs3_0) rfl rfl) rfl ?_
              refine sv (o_mv rfl) rfl ?_
              refine sg rfl (decide_eq_false hs3_1) (o_lda (vs := [_, _, _, _, _, _]) ag38 rfl rfl (Bg1.cs rfl)) rfl ?_
              refine sgc rfl (decide_eq_false hs3_1) (o_call ent18 rfl) (c_weigh _ v _ 8192 60 (R.to0 E)) rfl fun v_ w10 h_ => ?_
              obtain ⟨rfl, E_⟩ := h_
              replace Bg1 := Bg1.mod0 E_
              replace Bg2 := Bg2.mod0 E_
              replace E := E.then E_
              refine sg rfl (decide_eq_false hs3_1) (o_lss rfl rfl) rfl ?_
              refine sv (o_pickF (decide_eq_false hs3_1) rfl rfl) rfl ?_
              refine sv (o_mv rfl) rfl ?_
              refine sg rfl (decide_eq_false hs3_2) (o_lda (vs := [_, _, _, _, _, _]) ag38 rfl rfl (Bg2.cs rfl)) rfl ?_
              refine sgc rfl (decide_eq_false hs3_2) (o_call ent18 rfl) (c_weigh _ x _ 8192 60 (Rx.to0 E)) rfl fun v_ w11 h_ => ?_
              obtain ⟨rfl, E_⟩ := h_
              replace Bg1 := Bg1.mod0 E_
              replace Bg2 := Bg2.mod0 E_
              replace E := E.then E_
              refine sg rfl (decide_eq_false hs3_2) (o_lss rfl rfl) rfl ?_
              refine sv (o_pickF (decide_eq_false hs3_2) rfl rfl) rfl ?_
              refine sv (o_mv rfl) rfl ?_
              refine sg rfl (decide_eq_false hs3_3) (o_lda (vs := [_, _, _, _, _, _]) ag38 rfl rfl (Bg1.cs rfl)) rfl ?_
              refine sgc rfl (decide_eq_false hs3_3) (o_call ent19 rfl) (c_rises _ v _ (R.to0 E)) rfl fun v_ w12 h_ => ?_
              obtain ⟨rfl, E_⟩ := h_
              replace Bg1 := Bg1.mod0 E_
              replace Bg2 := Bg2.mod0 E_
              replace E := E.then E_
              refine sg rfl (decide_eq_false hs3_3) (o_not rfl) rfl ?_
              refine sv (o_pickF (decide_eq_false hs3_3) rfl rfl) rfl ?_
              refine sv (o_mv rfl) rfl ?_
              refine sg rfl (Bool.eq_false_iff.2 hs3_4) (o_lda (vs := [_, _, _, _, _, _]) ag38 rfl rfl (Bg2.cs rfl)) rfl ?_
              refine sgc rfl (Bool.eq_false_iff.2 hs3_4) (o_call ent19 rfl) (c_rises _ x _ (Rx.to0 E)) rfl fun v_ w13 h_ => ?_
              obtain ⟨rfl, E_⟩ := h_
              replace Bg1 := Bg1.mod0 E_
              replace Bg2 := Bg2.mod0 E_
              replace E := E.then E_
              refine sg rfl (Bool.eq_false_iff.2 hs3_4) (o_not rfl) rfl ?_
              refine sv (o_pickF (Bool.eq_false_iff.2 hs3_4) rfl rfl) rfl ?_
              refine sv (o_mv rfl) rfl ?_
              refine sn rfl (fun e_ => absurd ((hs3_5).symm.trans e_) (by decide)) rfl ?_
              refine sn rfl (fun e_ => absurd ((hs3_5).symm.trans e_) (by decide)) rfl ?_
              refine sv (o_pickT (hs3_5) rfl rfl) rfl ?_
              refine sv (o_mv rfl) rfl ?_
              refine sn rfl (fun e_ => absurd ((rfl).symm.trans e_) (by decide)) rfl ?_
              refine sn rfl (fun e_ => absurd ((rfl).symm.trans e_) (by decide)) rfl ?_
              refine sn rfl (fun e_ => absurd ((rfl).symm.trans e_) (by decide)) rfl ?_
              refine sv (o_pickT (rfl) rfl rfl) rfl ?_
              refine l_nil ?_
              refine e_K (hK5 _ _ _ _ ?_)
              refine c_true rfl ?_
              refine c_seq fun K11 hK11 => ?_
              refine c_region ?_
              refine sv (o_as rfl) rfl ?_
              refine l_nil ?_
              refine e_K (hK11 _ _ _ _ ?_)
              refine c_ret ?_
              refine e_then (by simp) ?_
              exact ret1 rfl rfl ⟨rfl, E⟩
            · skip
              by_cases hs3_6 : kind = kCreate
              · skip
                refine c_region ?_
                refine sv (o_mv rfl) rfl ?_
                refine sv (o_slen Try.underlying9 rfl) rfl ?_
                refine sv (o_gtr rfl rfl) rfl ?_
                refine sv (o_mv rfl) rfl ?_
                refine sg rfl (decide_eq_false hs3_0) (o_mv rfl) rfl ?_
                refine sg rfl (decide_eq_false hs3_0) (o_slen Try.underlying9 rfl) rfl ?_
                refine sg rfl (decide_eq_false hs3_0) (o_gtr rfl rfl) rfl ?_
                refine sv (o_pickF (decide_eq_false hs3_0) rfl rfl) rfl ?_
                refine sv (o_mv rfl) rfl ?_
                refine sg rfl (decide_eq_false hs3_1) (o_lda (vs := [_, _, _, _, _, _]) ag38 rfl rfl (Bg1.cs rfl)) rfl ?_
                refine sgc rfl (decide_eq_false hs3_1) (o_call ent18 rfl) (c_weigh _ v _ 8192 60 (R.to0 E)) rfl fun v_ w14 h_ => ?_
                obtain ⟨rfl, E_⟩ := h_
                replace Bg1 := Bg1.mod0 E_
                replace Bg2 := Bg2.mod0 E_
                replace E := E.then E_
                refine sg rfl (decide_eq_false hs3_1) (o_lss rfl rfl) rfl ?_
                refine sv (o_pickF (decide_eq_false hs3_1) rfl rfl) rfl ?_
                refine sv (o_mv rfl) rfl ?_
                refine sg rfl (decide_eq_false hs3_2) (o_lda (vs := [_, _, _, _, _, _]) ag38 rfl rfl (Bg2.cs rfl)) rfl ?_
                refine sgc rfl (decide_eq_false hs3_2) (o_call ent18 rfl) (c_weigh _ x _ 8192 60 (Rx.to0 E)) rfl fun v_ w15 h_ => ?_
                obtain ⟨rfl, E_⟩ := h_
                replace Bg1 := Bg1.mod0 E_
                replace Bg2 := Bg2.mod0 E_
                replace E := E.then E_
                refine sg rfl (decide_eq_false hs3_2) (o_lss rfl rfl) rfl ?_
                refine sv (o_pickF (decide_eq_false hs3_2) rfl rfl) rfl ?_
                refine sv (o_mv rfl) rfl ?_
                refine sg rfl (decide_eq_false hs3_3) (o_lda (vs := [_, _, _, _, _, _]) ag38 rfl rfl (Bg1.cs rfl)) rfl ?_
                refine sgc rfl (decide_eq_false hs3_3) (o_call ent19 rfl) (c_rises _ v _ (R.to0 E)) rfl fun v_ w16 h_ => ?_
                obtain ⟨rfl, E_⟩ := h_
                replace Bg1 := Bg1.mod0 E_
                replace Bg2 := Bg2.mod0 E_
                replace E := E.then E_
                refine sg rfl (decide_eq_false hs3_3) (o_not rfl) rfl ?_
                refine sv (o_pickF (decide_eq_false hs3_3) rfl rfl) rfl ?_
                refine sv (o_mv rfl) rfl ?_
                refine sg rfl (Bool.eq_false_iff.2 hs3_4) (o_lda (vs := [_, _, _, _, _, _]) ag38 rfl rfl (Bg2.cs rfl)) rfl ?_
                refine sgc rfl (Bool.eq_false_iff.2 hs3_4) (o_call ent19 rfl) (c_rises _ x _ (Rx.to0 E)) rfl fun v_ w17 h_ => ?_
                obtain ⟨rfl, E_⟩ := h_
                replace Bg1 := Bg1.mod0 E_
                replace Bg2 := Bg2.mod0 E_
                replace E := E.then E_
                refine sg rfl (Bool.eq_false_iff.2 hs3_4) (o_not rfl) rfl ?_
                refine sv (o_pickF (Bool.eq_false_iff.2 hs3_4) rfl rfl) rfl ?_
                refine sv (o_mv rfl) rfl ?_
                refine sg rfl (Bool.eq_false_iff.2 hs3_5) (o_mv rfl) rfl ?_
                refine sg rfl (Bool.eq_false_iff.2 hs3_5) (o_seq rfl rfl) rfl ?_
                refine sv (o_pickF (Bool.eq_false_iff.2 hs3_5) rfl rfl) rfl ?_
                refine sv (o_mv rfl) rfl ?_
                refine sn rfl (fun e_ => absurd ((decide_eq_true hs3_6).symm.trans e_) (by decide)) rfl ?_
                refine sn rfl (fun e_ => absurd ((decide_eq_true hs3_6).symm.trans e_) (by decide)) rfl ?_
                refine sn rfl (fun e_ => absurd ((decide_eq_true hs3_6).symm.trans e_) (by decide)) rfl ?_
                refine sv (o_pickT (decide_eq_true hs3_6) rfl rfl) rfl ?_
                refine l_nil ?_
                refine e_K (hK5 _ _ _ _ ?_)
                refine c_true rfl ?_
                refine c_seq fun K12 hK12 => ?_
                refine c_region ?_
                refine sv (o_as rfl) rfl ?_
                refine l_nil ?_
                refine e_K (hK12 _ _ _ _ ?_)
                refine c_ret ?_
                refine e_then (by simp) ?_
                exact ret1 rfl rfl ⟨rfl, E⟩
              · skip
                by_cases hs3_7 : v.kind ≠ 5
                · skip
                  refine c_region ?_
                  refine sv (o_mv rfl) rfl ?_
                  refine sv (o_slen Try.underlying9 rfl) rfl ?_
                  refine sv (o_gtr rfl rfl) rfl ?_
                  refine sv (o_mv rfl) rfl ?_
                  refine sg rfl (decide_eq_false hs3_0) (o_mv rfl) rfl ?_
                  refine sg rfl (decide_eq_false hs3_0) (o_slen Try.underlying9 rfl) rfl ?_
                  refine sg rfl (decide_eq_false hs3_0) (o_gtr rfl rfl) rfl ?_
                  refine sv (o_pickF (decide_eq_false hs3_0) rfl rfl) rfl ?_
                  refine sv (o_mv rfl) rfl ?_
                  refine sg rfl (decide_eq_false hs3_1) (o_lda (vs := [_, _, _, _, _, _]) ag38 rfl rfl (Bg1.cs rfl)) rfl ?_
                  refine sgc rfl (decide_eq_false hs3_1) (o_call ent18 rfl) (c_weigh _ v _ 8192 60 (R.to0 E)) rfl fun v_ w18 h_ => ?_
                  obtain ⟨rfl, E_⟩ := h_
                  replace Bg1 := Bg1.mod0 E_
                  replace Bg2 := Bg2.mod0 E_
                  replace E := E.then E_
                  refine sg rfl (decide_eq_false hs3_1) (o_lss rfl rfl) rfl ?_
                  refine sv (o_pickF (decide_eq_false hs3_1) rfl rfl) rfl ?_
                  refine sv (o_mv rfl) rfl ?_
                  refine sg rfl (decide_eq_false hs3_2) (o_lda (vs := [_, _, _, _, _, _]) ag38 rfl rfl (Bg2.cs rfl)) rfl ?_
                  refine sgc rfl (decide_eq_false hs3_2) (o_call ent18 rfl) (c_weigh _ x _ 8192 60 (Rx.to0 E)) rfl fun v_ w19 h_ => ?_
                  obtain ⟨rfl, E_⟩ := h_
                  replace Bg1 := Bg1.mod0 E_
                  replace Bg2 := Bg2.mod0 E_
                  replace E := E.then E_
                  refine sg rfl (decide_eq_false hs3_2) (o_lss rfl rfl) rfl ?_
                  refine sv (o_pickF (decide_eq_false hs3_2) rfl rfl) rfl ?_
                  refine sv (o_mv rfl) rfl ?_
                  refine sg rfl (decide_eq_false hs3_3) (o_lda (vs := [_, _, _, _, _, _]) ag38 rfl rfl (Bg1.cs rfl)) rfl ?_
                  refine sgc rfl (decide_eq_false hs3_3) (o_call ent19 rfl) (c_rises _ v _ (R.to0 E)) rfl fun v_ w20 h_ => ?_
                  obtain ⟨rfl, E_⟩ := h_
                  replace Bg1 := Bg1.mod0 E_
                  replace Bg2 := Bg2.mod0 E_
                  replace E := E.then E_
                  refine sg rfl (decide_eq_false hs3_3) (o_not rfl) rfl ?_
                  refine sv (o_pickF (decide_eq_false hs3_3) rfl rfl) rfl ?_
                  refine sv (o_mv rfl) rfl ?_
                  refine sg rfl (Bool.eq_false_iff.2 hs3_4) (o_lda (vs := [_, _, _, _, _, _]) ag38 rfl rfl (Bg2.cs rfl)) rfl ?_
                  refine sgc rfl (Bool.eq_false_iff.2 hs3_4) (o_call ent19 rfl) (c_rises _ x _ (Rx.to0 E)) rfl fun v_ w21 h_ => ?_
                  obtain ⟨rfl, E_⟩ := h_
                  replace Bg1 := Bg1.mod0 E_
                  replace Bg2 := Bg2.mod0 E_
                  replace E := E.then E_
                  refine sg rfl (Bool.eq_false_iff.2 hs3_4) (o_not rfl) rfl ?_
                  refine sv (o_pickF (Bool.eq_false_iff.2 hs3_4) rfl rfl) rfl ?_
                  refine sv (o_mv rfl) rfl ?_
                  refine sg rfl (Bool.eq_false_iff.2 hs3_5) (o_mv rfl) rfl ?_
                  refine sg rfl (Bool.eq_false_iff.2 hs3_5) (o_seq rfl rfl) rfl ?_
                  refine sv (o_pickF (Bool.eq_false_iff.2 hs3_5) rfl rfl) rfl ?_
                  refine sv (o_mv rfl) rfl ?_
                  refine sg rfl (decide_eq_false hs3_6) (o_fa0 fd38_0 rfl) rfl ?_
                  refine sg rfl (decide_eq_false hs3_6) (o_ld sc3 rfl (Bg1.cell rfl)) rfl ?_
                  refine sg rfl (decide_eq_false hs3_6) (o_neq rfl rfl) rfl ?_
                  refine sv (o_pickF (decide_eq_false hs3_6) rfl rfl) rfl ?_
                  refine l_nil ?_
                  refine e_K (hK5 _ _ _ _ ?_)
                  refine c_if rfl (fun h50 => ?_) (fun h50 => absurd hs3_7 h50)
                  refine c_seq fun K13 hK13 => ?_
                  refine c_region ?_
                  refine sv (o_as rfl) rfl ?_
                  refine l_nil ?_
                  refine e_K (hK13 _ _ _ _ ?_)
                  refine c_ret ?_
                  refine e_then (by simp) ?_
                  exact ret1 rfl rfl ⟨rfl, E⟩
                · skip
                  refine c_region ?_
                  refine sv (o_mv rfl) rfl ?_
                  refine sv (o_slen Try.underlying9 rfl) rfl ?_
                  refine sv (o_gtr rfl rfl) rfl ?_
                  refine sv (o_mv rfl) rfl ?_
                  refine sg rfl (decide_eq_false hs3_0) (o_mv rfl) rfl ?_
                  refine sg rfl (decide_eq_false hs3_0) (o_slen Try.underlying9 rfl) rfl ?_
                  refine sg rfl (decide_eq_false hs3_0) (o_gtr rfl rfl) rfl ?_
                  refine sv (o_pickF (decide_eq_false hs3_0) rfl rfl) rfl ?_
                  refine sv (o_mv rfl) rfl ?_
                  refine sg rfl (decide_eq_false hs3_1) (o_lda (vs := [_, _, _, _, _, _]) ag38 rfl rfl (Bg1.cs rfl)) rfl ?_
                  refine sgc rfl (decide_eq_false hs3_1) (o_call ent18 rfl) (c_weigh _ v _ 8192 60 (R.to0 E)) rfl fun v_ w22 h_ => ?_
                  obtain ⟨rfl, E_⟩ := h_
                  replace Bg1 := Bg1.mod0 E_
                  replace Bg2 := Bg2.mod0 E_
                  replace E := E.then E_
                  refine sg rfl (decide_eq_false hs3_1) (o_lss rfl rfl) rfl ?_
                  refine sv (o_pickF (decide_eq_false hs3_1) rfl rfl) rfl ?_
                  refine sv (o_mv rfl) rfl ?_
                  refine sg rfl (decide_eq_false hs3_2) (o_lda (vs := [_, _, _, _, _, _]) ag38 rfl rfl (Bg2.cs rfl)) rfl ?_
                  refine sgc rfl (decide_eq_false hs3_2) (o_call ent18 rfl) (c_weigh _ x _ 8192 60 (Rx.to0 E)) rfl fun v_ w23 h_ => ?_
                  obtain ⟨rfl, E_⟩ := h_
                  replace Bg1 := Bg1.mod0 E_
                  replace Bg2 := Bg2.mod0 E_
                  replace E := E.then E_
                  refine sg rfl (decide_eq_false hs3_2) (o_lss rfl rfl) rfl ?_
                  refine sv (o_pickF (decide_eq_false hs3_2) rfl rfl) rfl ?_
                  refine sv (o_mv rfl) rfl ?_
                  refine sg rfl (decide_eq_false hs3_3) (o_lda (vs := [_, _, _, _, _, _]) ag38 rfl rfl (Bg1.cs rfl)) rfl ?_
                  refine sgc rfl (decide_eq_false hs3_3) (o_call ent19 rfl) (c_rises _ v _ (R.to0 E)) rfl fun v_ w24 h_ => ?_
                  obtain ⟨rfl, E_⟩ := h_
                  replace Bg1 := Bg1.mod0 E_
                  replace Bg2 := Bg2.mod0 E_
                  replace E := E.then E_
                  refine sg rfl (decide_eq_false hs3_3) (o_not rfl) rfl ?_
                  refine sv (o_pickF (decide_eq_false hs3_3) rfl rfl) rfl ?_
                  refine sv (o_mv rfl) rfl ?_
                  refine sg rfl (Bool.eq_false_iff.2 hs3_4) (o_lda (vs := [_, _, _, _, _, _]) ag38 rfl rfl (Bg2.cs rfl)) rfl ?_
                  refine sgc rfl (Bool.eq_false_iff.2 hs3_4) (o_call ent19 rfl) (c_rises _ x _ (Rx.to0 E)) rfl fun v_ w25 h_ => ?_
                  obtain ⟨rfl, E_⟩ := h_
                  replace Bg1 := Bg1.mod0 E_
                  replace Bg2 := Bg2.mod0 E_
                  replace E := E.then E_
                  refine sg rfl (Bool.eq_false_iff.2 hs3_4) (o_not rfl) rfl ?_
                  refine sv (o_pickF (Bool.eq_false_iff.2 hs3_4) rfl rfl) rfl ?_
                  refine sv (o_mv rfl) rfl ?_
                  refine sg rfl (Bool.eq_false_iff.2 hs3_5) (o_mv rfl) rfl ?_
                  refine sg rfl (Bool.eq_false_iff.2 hs3_5) (o_seq rfl rfl) rfl ?_
                  refine sv (o_pickF (Bool.eq_false_iff.2 hs3_5) rfl rfl) rfl ?_
                  refine sv (o_mv rfl) rfl ?_
                  refine sg rfl (decide_eq_false hs3_6) (o_fa0 fd38_0 rfl) rfl ?_
                  refine sg rfl (decide_eq_false hs3_6) (o_ld sc3 rfl (Bg1.cell rfl)) rfl ?_
                  refine sg rfl (decide_eq_false hs3_6) (o_neq rfl rfl) rfl ?_
                  refine sv (o_pickF (decide_eq_false hs3_6) rfl rfl) rfl ?_
                  refine l_nil ?_
                  refine e_K (hK5 _ _ _ _ ?_)
                  refine c_if rfl (fun h50 => absurd h50 hs3_7) (fun h50 => ?_)
                  refine c_skip ?_
                  refine e_K (hK4 _ _ _ _ ?_)
                  refine c_seq fun K14 hK14 => ?_
                  refine c_seq fun K15 hK15 => ?_
                  refine c_region ?_
                  refine sv (o_mv rfl) rfl ?_
                  refine sc (o_call ent23 rfl) (c_keptR [] _ (by simp) kind) rfl fun v_ w26 h_ => ?_
                  obtain ⟨Ru, E_⟩ := h_
                  replace Bg1 := Bg1.mod0 E_
                  replace Bg2 := Bg2.mod0 E_
                  replace E := E.then E_
                  obtain ⟨adk, ck, rfl, hk1, hk2⟩ := flat_len Ru
                  have hkl := JV.kept_len kind
                  have Ek1 := Mod.refl [] w26
                  refine sv (o_len Try.underlying45 rfl) rfl ?_
                  refine sv (o_mv rfl) rfl ?_
                  refine l_nil ?_
                  refine e_K (hK15 _ _ _ _ ?_)
                  refine c_block ?_
                  refine c_loop (σ := Nat) (fun k => [(0, S kind), (2, S key), (5, .pointer (some ⟨g1, 0, none⟩)), (7, .pointer (some ⟨g2, 0, none⟩)), (52, .slice adk (keptK kind).length ck), (53, .int .i64 (keptK kind).length), (54, .int .i64 (k : Int))]) (fun k w1 => k ≤ (keptK kind).length ∧ ¬ key ∈ (keptK kind).take k ∧ Mod [] w26 w1) (fun k => (keptK kind).length - k) (0) ⟨rfl, rfl, rfl, rfl, rfl, rfl, rfl, trivial⟩ (⟨by omega, by simp, Mod.refl [] w26⟩) ?_
                  rintro k w27 ⟨hk, hnk, EI⟩
                  replace Bg1 := Bg1.mod0 EI
                  replace Bg2 := Bg2.mod0 EI
                  replace E := E.then EI
                  replace Ek1 := Ek1.then EI
                  refine c_seq fun K16 hK16 => ?_
                  refine c_region ?_
                  refine sv (o_lss rfl rfl) rfl ?_
                  refine l_nil ?_
                  refine e_K (hK16 _ _ _ _ ?_)
                  refine c_seq fun K17 hK17 => ?_
                  refine c_if rfl (fun h55 => ?_) (fun h55 => ?_)
                  · skip
                    obtain ⟨q, hx_q⟩ : ∃ q, (keptK kind)[k]? = some q := ⟨_, List.getElem?_eq_getElem (by omega)⟩
                    obtain ⟨a_q, ha_q, hcs_q, _⟩ := flat_at (Ru.to0 Ek1) hx_q
                    obtain rfl := ha_q
                    refine c_skip ?_
                    refine e_K (hK17 _ _ _ _ ?_)
                    refine c_seq fun K18 hK18 => ?_
                    refine c_block ?_
                    refine c_seq fun K19 hK19 => ?_
                    refine c_region ?_
                    refine sv (o_ix sl45 rfl rfl (by omega)) rfl ?_
                    refine sv (o_ld sc9 rfl hcs_q.first) rfl ?_
                    refine sv (o_as rfl) rfl ?_
                    refine l_nil ?_
                    refine e_K (hK19 _ _ _ _ ?_)
                    refine c_seq fun K20 hK20 => ?_
                    refine c_region ?_
                    refine sv (o_mv rfl) rfl ?_
                    refine sv (o_mv rfl) rfl ?_
                    refine sv (o_seq rfl rfl) rfl ?_
                    refine l_nil ?_
                    refine e_K (hK20 _ _ _ _ ?_)
                    refine c_if rfl (fun h60 => ?_) (fun h60 => ?_)
                    · skip
                      refine c_seq fun K21 hK21 => ?_
                      refine c_region ?_
                      refine sv (o_as rfl) rfl ?_
                      refine l_nil ?_
                      refine e_K (hK21 _ _ _ _ ?_)
                      refine c_ret ?_
                      refine e_in (by simp) ?_
                      refine e_then (by simp) ?_
                      refine e_then (by simp) ?_
                      refine e_in (by simp) ?_
                      refine e_then (by simp) ?_
                      exact ret1 rfl rfl ⟨rfl, E⟩
                    · skip
                      refine c_skip ?_
                      refine e_in (by simp) ?_
                      refine e_K (hK18 _ _ _ _ ?_)
                      refine c_region ?_
                      refine sv (o_addN rfl rfl (by omega)) rfl ?_
                      refine sv (o_mv rfl) rfl ?_
                      refine l_nil ?_
                      exact e_round (σ := Nat) (s := k) (k + 1) ⟨rfl, rfl, rfl, rfl, rfl, rfl, rfl, trivial⟩ ⟨by omega, by rw [JV.mem_take_succ hx_q]; exact fun h => h.elim hnk h60, EI⟩ (by omega)
                  · skip
                    have hnK : ¬ key ∈ keptK kind := by rw [List.take_of_length_le (by omega)] at hnk; exact hnk
                    refine c_exit ?_
                    refine e_then (by simp) ?_
                    refine e_then (by simp) ?_
                    refine e_hit ?_
                    refine e_K (hK14 _ _ _ _ ?_)
                    refine c_seq fun K22 hK22 => ?_
                    refine c_seq fun K23 hK23 => ?_
                    refine c_region ?_
                    refine sv (o_mv rfl) rfl ?_
                    refine sv (o_seq rfl rfl) rfl ?_
                    refine l_nil ?_
                    refine e_K (hK23 _ _ _ _ ?_)
                    refine c_if rfl (fun h63 => ?_) (fun h63 => ?_)
                    · skip
                      refine c_seq fun K24 hK24 => ?_
                      refine c_region ?_
                      refine sv (o_as rfl) rfl ?_
                      refine l_nil ?_
                      refine e_K (hK24 _ _ _ _ ?_)
                      refine c_ret ?_
                      refine e_then (by simp) ?_
                      exact ret1 rfl rfl ⟨rfl, E⟩
                    · skip
                      refine c_skip ?_
                      refine e_K (hK22 _ _ _ _ ?_)
                      refine c_seq fun K25 hK25 => ?_
                      refine c_region ?_
                      refine sv (o_fa0 fd38_5 rfl) rfl ?_
                      refine sv (o_ld sc36 rfl (Bg1.cell rfl)) rfl ?_
                      refine sv (o_mv rfl) rfl ?_
                      refine sv (o_lda (vs := [_, _, _, _, _, _]) ag38 rfl rfl (Bg2.cs rfl)) rfl ?_
                      refine sv (o_build (cs := [_, _, _, _, _, _, _]) pl49 zv49 rfl rfl) rfl ?_
                      have hr : v.Rise := JV.rises_iff.1 (by simpa using hs3_4)
                      have hva : ascM v.map := ((JV.Rise_eq v).1 hr).1
                      have hta : ascM v.third.map := (JV.third_asc hr)
                      have h5 : v.kind = 5 := Classical.byContradiction hs3_7
                      have hceq := JV.content_more (x := x) h5 hs3_6 hnK h63
                      have hthird := JV.third_more (x := x) h5 h63
                      have hma := ascM_put (k := key) (x := x) hva
                      have hml := putM_len (k := key) (x := x) hva
                      refine sc (o_call ent24 rfl) (c_jwith [] _ (by simp) v.map _ (Rm.to0 E) key x _ (Rx.to0 E) (by omega)) rfl fun v_ w28 h_ => ?_
                      obtain ⟨Rw, E_⟩ := h_
                      replace Bg1 := Bg1.mod0 E_
                      replace Bg2 := Bg2.mod0 E_
                      replace E := E.then E_
                      replace Ek1 := Ek1.then E_
                      have Ekm := Mod.refl [] w28
                      obtain ⟨aw, cw, hv_, hw1, hw2⟩ := Rw.sl_
                      rw [List.length_map] at hv_
                      subst hv_
                      have Rmore := JV.obj_reps Rw
                      refine sv (o_build (cs := [_, _, _, _, _, _]) pl38 zv38 rfl rfl) rfl ?_
                      refine s_alloc zv38 rfl fun g3 w29 N3 => ?_
                      have Lg3_E := N3.le E
                      have Lg3_Ek1 := N3.le Ek1
                      have Lg3_Ekm := N3.le Ekm
                      have Dg1_g3 := N3.ne Bg1
                      have Dg2_g3 := N3.ne Bg2
                      replace Bg1 := Bg1.mod0 N3.mod
                      replace Bg2 := Bg2.mod0 N3.mod
                      replace E := E.then N3.mod
                      replace Ek1 := Ek1.then N3.mod
                      replace Ekm := Ekm.then N3.mod
                      have Bg3 := N3.blk
                      refine s_sta (vs := [_, _, _, _, _, _]) ag38 Bg3 rfl rfl rfl (by simp [Value.oneCell']) (by simp) fun w30 P30 => ?_
                      replace Bg1 := Bg1.ne P30.mod (Ne.symm (Ne.symm Dg1_g3))
                      replace Bg2 := Bg2.ne P30.mod (Ne.symm (Ne.symm Dg2_g3))
                      replace E := E.own P30.mod Lg3_E
                      replace Ek1 := Ek1.own P30.mod Lg3_Ek1
                      replace Ekm := Ekm.own P30.mod Lg3_Ekm
                      replace Bg3 : Blk w30 g3 _ [_, _, _, _, _, _] := P30.blk
                      refine l_nil ?_
                      refine e_K (hK25 _ _ _ _ ?_)
                      refine c_seq fun K26 hK26 => ?_
                      have Rmo := Rmore.to0 Ekm
                      refine c_draw wide (by kernel_rfl) ?_
                      refine tv (fun w_ E_ => (o_mv rfl)) rfl rfl ?_
                      refine tv (fun w_ E_ => (o_lda (vs := [_, _, _, _, _, _]) ag38 rfl rfl ((Bg3.mod0 E_).cs rfl))) rfl rfl ?_
                      refine tcr (fun u w_ => ∃ us, u = .agg us.toArray ∧ Reps [] w_ (JV.content kind (JV.obj (putM v.map key x))).D us) (fun v_ w1_ w2_ k_ h_ => by obtain ⟨us_, e_, r_⟩ := h_; exact ⟨us_, e_, r_.to0 k_⟩) (fun w_ E_ => o_call ent21 rfl) (fun w_ E_ => Calls.imp (c_content _ kind (JV.obj (putM v.map key x)) _ (Rmo.to0 E_) hma (by show (putM v.map key x).length ≤ _; omega) (by rw [hthird]; exact hta) (by rw [hthird]; exact htn)) fun r_ w2_ hr => by obtain ⟨us_, e_, r2_, k_⟩ := hr; exact ⟨⟨us_, e_, r2_⟩, k_⟩) rfl rfl rfl ?_
                      refine tv (fun w_ E_ => (o_mv rfl)) rfl rfl ?_
                      refine tv (fun w_ E_ => (o_lda (vs := [_, _, _, _, _, _]) ag38 rfl rfl ((Bg1.mod0 E_).cs rfl))) rfl rfl ?_
                      refine tcr (fun u w_ => ∃ us, u = .agg us.toArray ∧ Reps [] w_ (JV.content kind v).D us) (fun v_ w1_ w2_ k_ h_ => by obtain ⟨us_, e_, r_⟩ := h_; exact ⟨us_, e_, r_.to0 k_⟩) (fun w_ E_ => o_call ent21 rfl) (fun w_ E_ => Calls.imp (c_content _ kind v _ (R.to0 (E.then E_)) hva (by omega) hta htn) fun r_ w2_ hr => by obtain ⟨us_, e_, r2_, k_⟩ := hr; exact ⟨⟨us_, e_, r2_⟩, k_⟩) rfl rfl rfl ?_
                      refine tc2 (args := fun u_ v_ => [u_, v_].toArray) (v := .bool true) 73 76 rfl rfl ⟨_, List.Mem.tail _ (List.Mem.head _), rfl⟩ rfl rfl ⟨_, List.Mem.tail _ (List.Mem.tail _ (List.Mem.head _)), rfl⟩ (fun w_ u_ v_ E_ h_ h2_ => o_call ent20 rfl) (fun w_ u_ v_ E_ h_ h2_ => by
                        obtain ⟨us_, rfl, r_⟩ := h_
                        obtain ⟨vs_, rfl, r2_⟩ := h2_
                        exact Calls.imp (c_same _ _ _ _ _ r_ r2_) fun r_ w2_ hr => ⟨hr.1.trans (by rw [hceq, JV.eqJ_self]), hr.2⟩) rfl rfl ?_
                      refine tv (fun w_ E_ => (o_as rfl)) rfl rfl ?_
                      refine tw_nil rfl fun w31 E_ => ?_
                      replace Bg1 := Bg1.mod0 E_
                      replace Bg2 := Bg2.mod0 E_
                      replace Bg3 := Bg3.mod0 E_
                      replace E := E.then E_
                      replace Ek1 := Ek1.then E_
                      replace Ekm := Ekm.then E_
                      refine e_K (hK26 _ _ _ _ ?_)
                      refine c_ret ?_
                      exact ret1 rfl rfl ⟨rfl, E⟩
end Go.Proofs.Ytccjjkdogljmpaa.V
