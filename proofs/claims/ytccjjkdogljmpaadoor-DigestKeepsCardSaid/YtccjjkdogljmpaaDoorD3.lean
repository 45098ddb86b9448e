/-
  A part of the proof: walks of functions, and the plain laws of what they compute. No condition of its own.
-/
import Derived.Test.YtccjjkdogljmpaaDoorD2
set_option linter.unusedVariables false
set_option linter.unusedSimpArgs false
set_option maxRecDepth 10000
namespace Go.Proofs.YtccjjkdogljmpaaDoor.V
open Go Go.Proofs
theorem zv65 : zvB Tryd.prog 65 (List.replicate 64 (.int .u32 0)) := by unfold zvB; kernel_rfl
theorem ent28 : Ent Tryd.prog 28 := Ent.of Tryd.func28 (by kernel_rfl) (by kernel_rfl)
theorem ar65 : arB Tryd.prog 65 64 44 1 = true := by kernel_rfl
theorem ent29 : Ent Tryd.prog 29 := Ent.of Tryd.func29 (by kernel_rfl) (by kernel_rfl)
theorem fd53_0 : fdB Tryd.prog 53 0 0 8 = true := by kernel_rfl
theorem ag50 : agB Tryd.prog 50 8 = true := by kernel_rfl
theorem zv50 : zvB Tryd.prog 50 ([.int .u32 0, .int .u32 0, .int .u32 0, .int .u32 0, .int .u32 0, .int .u32 0, .int .u32 0, .int .u32 0]) := by unfold zvB; kernel_rfl
theorem ar50 : arB Tryd.prog 50 8 44 1 = true := by kernel_rfl
theorem c_blk64 (A : List Nat) (w : World) (s : S8) (b : List UInt8) (gh : Nat) (wv cnt v1 : Value) (Bgh : Blk w gh 53 [W4 s.a, W4 s.b, W4 s.c, W4 s.d, W4 s.e, W4 s.f, W4 s.g, W4 s.h, wv, cnt]) (hT : Cs w ⟨0, 0, none⟩ (numsK.map W4)) (h0 : gh ≠ 0) (Rb : Rep A w (byD b) v1) (hA : gh ∈ A) (hb : 64 ≤ b.length) : Calls Tryd.prog 20 [.pointer (some ⟨gh, 0, none⟩), v1].toArray w (Ret fun _ w' => Blk w' gh 53 ((comp s b).cells ++ [wv, cnt]) ∧ Mod [gh] w w') := by
  refine enter Tryd.func20 rfl rfl rfl (l := [(0, _), (1, _)]) ⟨rfl, rfl, trivial⟩ ?_
  have E := Mod.refl [] w
  obtain ⟨adb, cb, rfl, hb1, hb2⟩ := flat_len Rb
  replace E := Mod.refl [gh] w
  have h0m : (0 : Nat) ∉ [gh] := by simpa using h0.symm
  have hMA : ∀ x ∈ [gh], x ∈ A := by simpa using hA
  refine c_seq fun K1 hK1 => ?_
  refine c_region ?_
  refine s_alloc zv65 rfl fun g1 w1 N1 => ?_
  have Lg1_E := N1.le E
  have Dgh_g1 := N1.ne Bgh
  replace Bgh := Bgh.mod0 N1.mod
  replace E := E.then N1.mod
  have Bg1 := N1.blk
  refine l_nil ?_
  refine e_K (hK1 _ _ _ _ ?_)
  refine c_seq fun K2 hK2 => ?_
  refine c_seq fun K3 hK3 => ?_
  refine c_region ?_
  refine sv (o_mv rfl) rfl ?_
  refine l_nil ?_
  refine e_K (hK3 _ _ _ _ ?_)
  refine c_block ?_
  refine c_loop (σ := Nat) (fun i => [(0, .pointer (some ⟨gh, 0, none⟩)), (1, .slice adb b.length cb), (4, .pointer (some ⟨g1, 0, none⟩)), (16, .int .i64 (i : Int))]) (fun i w1 => i ≤ 64 ∧ Blk w1 g1 65 (rowW (sch b i) 64) ∧ Blk w1 gh 53 [W4 s.a, W4 s.b, W4 s.c, W4 s.d, W4 s.e, W4 s.f, W4 s.g, W4 s.h, wv, cnt] ∧ Mod [gh] w w1) (fun i => 64 - i) (0) ⟨rfl, rfl, rfl, rfl, trivial⟩ (⟨by omega, by rw [rowW_nil]; exact Bg1, Bgh, E⟩) ?_
  rintro i w2 ⟨hi, Bg1, Bgh, E⟩
  refine c_seq fun K4 hK4 => ?_
  refine c_region ?_
  refine sv (o_lss rfl rfl) rfl ?_
  refine l_nil ?_
  refine e_K (hK4 _ _ _ _ ?_)
  refine c_seq fun K5 hK5 => ?_
  refine c_if rfl (fun h17 => ?_) (fun h17 => ?_)
  · skip
    have hlt : i < 64 := by omega
    refine c_skip ?_
    refine e_K (hK5 _ _ _ _ ?_)
    refine c_seq fun K6 hK6 => ?_
    refine c_block ?_
    refine c_seq fun K7 hK7 => ?_
    refine c_region ?_
    refine sv (o_mv rfl) rfl ?_
    refine sv (o_as rfl) rfl ?_
    refine l_nil ?_
    refine e_K (hK7 _ _ _ _ ?_)
    refine c_seq fun K8 hK8 => ?_
    refine c_seq fun K9 hK9 => ?_
    refine c_region ?_
    refine sv (o_mv rfl) rfl ?_
    refine sv (o_lss rfl rfl) rfl ?_
    refine l_nil ?_
    refine e_K (hK9 _ _ _ _ ?_)
    refine c_if rfl (fun h20 => ?_) (fun h20 => ?_)
    · skip
      replace h20 : i < 16 := by omega
      refine c_seq fun K10 hK10 => ?_
      refine c_region ?_
      refine sv (o_mv rfl) rfl ?_
      refine sv (o_mv rfl) rfl ?_
      refine sv (o_mv rfl) rfl ?_
      refine sv (o_mulE (r := ((4 * i : Nat) : Int)) rfl rfl (by rw [wrap64_in _ (by omega)]; omega)) rfl ?_
      refine sv (o_slfrom (lo := 4 * i) sl22 rfl rfl (by omega) (by omega)) rfl ?_
      have RW := flat_from (i := 4 * i) (Rb.toM E hMA) (by omega)
      refine sc (o_call ent28 rfl) (c_word A _ (b.drop (4 * i)) _ RW (by rw [List.length_drop]; omega)) rfl fun v_ w3 h_ => ?_
      obtain ⟨rfl, E_⟩ := h_
      replace Bgh := Bgh.mod0 E_
      replace Bg1 := Bg1.mod0 E_
      replace E := E.then E_
      refine sv (o_ixa ar65 rfl rfl (by omega)) rfl ?_
      refine s_st1 (i := i) sc44 Bg1 rfl rfl rfl (by rw [rowW_len (by rw [sch_len]; omega)]; exact hlt) fun wS P1 => ?_
      replace E := E.own P1.mod Lg1_E
      replace Bgh := Bgh.ne P1.mod Dgh_g1
      replace Bg1 := P1.blk
      refine l_nil ?_
      refine e_K (hK10 _ _ _ _ ?_)
      refine c_exit ?_
      refine e_then (by simp) ?_
      refine e_hit ?_
      refine e_K (hK6 _ _ _ _ ?_)
      refine c_region ?_
      refine sv (o_addN rfl rfl (by omega)) rfl ?_
      refine sv (o_mv rfl) rfl ?_
      refine l_nil ?_
      exact e_round (σ := Nat) (s := i) (i + 1) ⟨rfl, rfl, rfl, rfl, trivial⟩ ⟨by omega, row_step hlt (by rw [if_pos h20]) Bg1, Bgh, E⟩ (by omega)
    · skip
      replace h20 : ¬ i < 16 := by omega
      refine c_skip ?_
      refine e_K (hK8 _ _ _ _ ?_)
      refine c_seq fun K11 hK11 => ?_
      refine c_draw wide (by kernel_rfl) ?_
      refine tv (fun w_ E_ => (o_mv rfl)) rfl rfl ?_
      refine tv (fun w_ E_ => (o_subE (r := ((i - 15 : Nat) : Int)) rfl rfl (by rw [wrap64_in _ (by omega)]; omega))) rfl rfl ?_
      refine tv (fun w_ E_ => (o_ixa ar65 rfl rfl (by omega))) rfl rfl ?_
      refine tv (fun w_ E_ => (o_ld sc44 rfl ((Bg1.mod0 E_).c1 (rowW_get (xs := sch b i) (i := i - 15) (by rw [sch_len]; omega))))) rfl rfl ?_
      refine tv (fun w_ E_ => (o_mv rfl)) rfl rfl ?_
      refine tv (fun w_ E_ => (o_subE (r := ((i - 2 : Nat) : Int)) rfl rfl (by rw [wrap64_in _ (by omega)]; omega))) rfl rfl ?_
      refine tv (fun w_ E_ => (o_ixa ar65 rfl rfl (by omega))) rfl rfl ?_
      refine tv (fun w_ E_ => (o_ld sc44 rfl ((Bg1.mod0 E_).c1 (rowW_get (xs := sch b i) (i := i - 2) (by rw [sch_len]; omega))))) rfl rfl ?_
      refine tv (fun w_ E_ => (o_as rfl)) rfl rfl ?_
      refine tv (fun w_ E_ => (o_as rfl)) rfl rfl ?_
      refine tw_nil rfl fun w4 E_ => ?_
      replace Bgh := Bgh.mod0 E_
      replace Bg1 := Bg1.mod0 E_
      replace E := E.then E_
      refine e_K (hK11 _ _ _ _ ?_)
      refine c_seq fun K12 hK12 => ?_
      refine c_region ?_
      refine sv (o_mv rfl) rfl ?_
      refine sc (o_call ent29 rfl) (c_rot _ _ 7 (by decide)) rfl fun v_ w5 h_ => ?_
      obtain ⟨rfl, E_⟩ := h_
      replace Bgh := Bgh.mod0 E_
      replace Bg1 := Bg1.mod0 E_
      replace E := E.then E_
      refine sv (o_mv rfl) rfl ?_
      refine sc (o_call ent29 rfl) (c_rot _ _ 18 (by decide)) rfl fun v_ w6 h_ => ?_
      obtain ⟨rfl, E_⟩ := h_
      replace Bgh := Bgh.mod0 E_
      replace Bg1 := Bg1.mod0 E_
      replace E := E.then E_
      refine sv (o_xor4 rfl rfl) rfl ?_
      refine sv (o_mv rfl) rfl ?_
      refine sv (o_shr4 (m := 3) rfl rfl (by decide)) rfl ?_
      refine sv (o_xor4 rfl rfl) rfl ?_
      refine sv (o_as rfl) rfl ?_
      refine l_nil ?_
      refine e_K (hK12 _ _ _ _ ?_)
      refine c_seq fun K13 hK13 => ?_
      refine c_region ?_
      refine sv (o_mv rfl) rfl ?_
      refine sc (o_call ent29 rfl) (c_rot _ _ 17 (by decide)) rfl fun v_ w7 h_ => ?_
      obtain ⟨rfl, E_⟩ := h_
      replace Bgh := Bgh.mod0 E_
      replace Bg1 := Bg1.mod0 E_
      replace E := E.then E_
      refine sv (o_mv rfl) rfl ?_
      refine sc (o_call ent29 rfl) (c_rot _ _ 19 (by decide)) rfl fun v_ w8 h_ => ?_
      obtain ⟨rfl, E_⟩ := h_
      replace Bgh := Bgh.mod0 E_
      replace Bg1 := Bg1.mod0 E_
      replace E := E.then E_
      refine sv (o_xor4 rfl rfl) rfl ?_
      refine sv (o_mv rfl) rfl ?_
      refine sv (o_shr4 (m := 10) rfl rfl (by decide)) rfl ?_
      refine sv (o_xor4 rfl rfl) rfl ?_
      refine sv (o_as rfl) rfl ?_
      refine l_nil ?_
      refine e_K (hK13 _ _ _ _ ?_)
      refine c_drawp [] [0, 1, 2, 3, 4, 5, 6, 7, 8, 9, 10, 11, 12, 13, 14] 15 [] wide (by kernel_rfl) (fun _ _ _ h => h.2) ?_
      refine pw_nil ?_
      refine tv (fun w_ E_ => (o_mv rfl)) rfl rfl ?_
      refine tv (fun w_ E_ => (o_mv rfl)) rfl rfl ?_
      refine tv (fun w_ E_ => (o_subE (r := ((i - 16 : Nat) : Int)) rfl rfl (by rw [wrap64_in _ (by omega)]; omega))) rfl rfl ?_
      refine tv (fun w_ E_ => (o_ixa ar65 rfl rfl (by omega))) rfl rfl ?_
      refine tv (fun w_ E_ => (o_ld sc44 rfl ((Bg1.mod0 E_).c1 (rowW_get (xs := sch b i) (i := i - 16) (by rw [sch_len]; omega))))) rfl rfl ?_
      refine tv (fun w_ E_ => (o_mv rfl)) rfl rfl ?_
      refine tv (fun w_ E_ => (o_add4 rfl rfl)) rfl rfl ?_
      refine tv (fun w_ E_ => (o_mv rfl)) rfl rfl ?_
      refine tv (fun w_ E_ => (o_subE (r := ((i - 7 : Nat) : Int)) rfl rfl (by rw [wrap64_in _ (by omega)]; omega))) rfl rfl ?_
      refine tv (fun w_ E_ => (o_ixa ar65 rfl rfl (by omega))) rfl rfl ?_
      refine tv (fun w_ E_ => (o_ld sc44 rfl ((Bg1.mod0 E_).c1 (rowW_get (xs := sch b i) (i := i - 7) (by rw [sch_len]; omega))))) rfl rfl ?_
      refine tv (fun w_ E_ => (o_add4 rfl rfl)) rfl rfl ?_
      refine tv (fun w_ E_ => (o_mv rfl)) rfl rfl ?_
      refine tv (fun w_ E_ => (o_add4 rfl rfl)) rfl rfl ?_
      refine tv (fun w_ E_ => (o_ixa ar65 rfl rfl (by omega))) rfl rfl ?_
      refine tw_tail rfl fun w9 E_ => ?_
      replace Bgh := Bgh.mod0 E_
      replace Bg1 := Bg1.mod0 E_
      replace E := E.then E_
      refine s_st1 (i := i) sc44 Bg1 rfl rfl rfl (by rw [rowW_len (by rw [sch_len]; omega)]; exact hlt) fun wS P1 => ?_
      replace E := E.own P1.mod Lg1_E
      replace Bgh := Bgh.ne P1.mod Dgh_g1
      replace Bg1 := P1.blk
      refine l_nil ?_
      refine e_in (by simp) ?_
      refine e_K (hK6 _ _ _ _ ?_)
      refine c_region ?_
      refine sv (o_addN rfl rfl (by omega)) rfl ?_
      refine sv (o_mv rfl) rfl ?_
      refine l_nil ?_
      exact e_round (σ := Nat) (s := i) (i + 1) ⟨rfl, rfl, rfl, rfl, trivial⟩ ⟨by omega, row_step hlt (by rw [if_neg h20]; rfl) Bg1, Bgh, E⟩ (by omega)
  · skip
    have hi64 : i = 64 := by omega
    subst hi64
    refine c_exit ?_
    refine e_then (by simp) ?_
    refine e_then (by simp) ?_
    refine e_hit ?_
    refine e_K (hK2 _ _ _ _ ?_)
    refine c_seq fun K14 hK14 => ?_
    refine c_region ?_
    refine sv (o_mv rfl) rfl ?_
    refine sv (o_nilc rfl) rfl ?_
    refine sv (o_fa0 fd53_0 rfl) rfl ?_
    refine sv (o_lda (vs := [_, _, _, _, _, _, _, _]) ag50 rfl rfl (Bgh.cs rfl)) rfl ?_
    refine s_alloc zv50 rfl fun g2 w10 N2 => ?_
    have Lg2_E := N2.le E
    have Dgh_g2 := N2.ne Bgh
    have Dg1_g2 := N2.ne Bg1
    replace Bgh := Bgh.mod0 N2.mod
    replace Bg1 := Bg1.mod0 N2.mod
    replace E := E.then N2.mod
    have Bg2 := N2.blk
    refine s_sta (vs := [_, _, _, _, _, _, _, _]) ag50 Bg2 rfl rfl rfl (by simp [W4, Value.oneCell']) (by simp) fun w11 P11 => ?_
    replace Bgh := Bgh.ne P11.mod (Ne.symm (Ne.symm Dgh_g2))
    replace Bg1 := Bg1.ne P11.mod (Ne.symm (Ne.symm Dg1_g2))
    replace E := E.own P11.mod Lg2_E
    replace Bg2 : Blk w11 g2 _ [_, _, _, _, _, _, _, _] := P11.blk
    refine l_nil ?_
    refine e_K (hK14 _ _ _ _ ?_)
    refine c_seq fun K15 hK15 => ?_
    refine c_seq fun K16 hK16 => ?_
    refine c_region ?_
    refine sv (o_mv rfl) rfl ?_
    refine l_nil ?_
    refine e_K (hK16 _ _ _ _ ?_)
    refine c_block ?_
    refine c_loop (σ := Nat) (fun i => [(0, .pointer (some ⟨gh, 0, none⟩)), (4, .pointer (some ⟨g1, 0, none⟩)), (10, .pointer (some ⟨g2, 0, none⟩)), (72, .int .i64 (i : Int))]) (fun i w1 => i ≤ 64 ∧ Blk w1 g1 65 (rowW (sch b 64) 64) ∧ Blk w1 g2 50 (rnds numsK (sch b 64) s i).cells ∧ Blk w1 gh 53 [W4 s.a, W4 s.b, W4 s.c, W4 s.d, W4 s.e, W4 s.f, W4 s.g, W4 s.h, wv, cnt] ∧ Mod [gh] w w1) (fun i => 64 - i) (0) ⟨rfl, rfl, rfl, rfl, trivial⟩ (⟨by omega, Bg1, Bg2, Bgh, E⟩) ?_
    rintro i w12 ⟨hi, Bg1, Bg2, Bgh, E⟩
    refine c_seq fun K17 hK17 => ?_
    refine c_region ?_
    refine sv (o_lss rfl rfl) rfl ?_
    refine l_nil ?_
    refine e_K (hK17 _ _ _ _ ?_)
    refine c_seq fun K18 hK18 => ?_
    refine c_if rfl (fun h73 => ?_) (fun h73 => ?_)
    · skip
      have hlt : i < 64 := by omega
      refine c_skip ?_
      refine e_K (hK18 _ _ _ _ ?_)
      refine c_seq fun K19 hK19 => ?_
      refine c_block ?_
      refine c_seq fun K20 hK20 => ?_
      refine c_region ?_
      refine sv (o_mv rfl) rfl ?_
      refine sv (o_as rfl) rfl ?_
      refine l_nil ?_
      refine e_K (hK20 _ _ _ _ ?_)
      refine c_seq fun K21 hK21 => ?_
      refine c_draw wide (by kernel_rfl) ?_
      refine tv (fun w_ E_ => (o_ixa ar50 rfl rfl (by omega))) rfl rfl ?_
      refine tv (fun w_ E_ => (o_ld sc44 rfl ((Bg2.mod0 E_).cell rfl))) rfl rfl ?_
      refine tc (fun w_ E_ => o_call ent29 rfl) (fun w_ E_ => c_rot _ _ 6 (by decide)) rfl rfl ?_
      refine tv (fun w_ E_ => (o_ixa ar50 rfl rfl (by omega))) rfl rfl ?_
      refine tv (fun w_ E_ => (o_ld sc44 rfl ((Bg2.mod0 E_).cell rfl))) rfl rfl ?_
      refine tc (fun w_ E_ => o_call ent29 rfl) (fun w_ E_ => c_rot _ _ 11 (by decide)) rfl rfl ?_
      refine tv (fun w_ E_ => (o_xor4 rfl rfl)) rfl rfl ?_
      refine tv (fun w_ E_ => (o_ixa ar50 rfl rfl (by omega))) rfl rfl ?_
      refine tv (fun w_ E_ => (o_ld sc44 rfl ((Bg2.mod0 E_).cell rfl))) rfl rfl ?_
      refine tc (fun w_ E_ => o_call ent29 rfl) (fun w_ E_ => c_rot _ _ 25 (by decide)) rfl rfl ?_
      refine tv (fun w_ E_ => (o_xor4 rfl rfl)) rfl rfl ?_
      refine tv (fun w_ E_ => (o_as rfl)) rfl rfl ?_
      refine tw_nil rfl fun w13 E_ => ?_
      replace Bgh := Bgh.mod0 E_
      replace Bg1 := Bg1.mod0 E_
      replace Bg2 := Bg2.mod0 E_
      replace E := E.then E_
      refine e_K (hK21 _ _ _ _ ?_)
      refine c_seq fun K22 hK22 => ?_
      refine c_draw wide (by kernel_rfl) ?_
      refine tv (fun w_ E_ => (o_ixa ar50 rfl rfl (by omega))) rfl rfl ?_
      refine tv (fun w_ E_ => (o_ld sc44 rfl ((Bg2.mod0 E_).cell rfl))) rfl rfl ?_
      refine tv (fun w_ E_ => (o_mv rfl)) rfl rfl ?_
      refine tv (fun w_ E_ => (o_add4 rfl rfl)) rfl rfl ?_
      refine tv (fun w_ E_ => (o_ixa ar50 rfl rfl (by omega))) rfl rfl ?_
      refine tv (fun w_ E_ => (o_ld sc44 rfl ((Bg2.mod0 E_).cell rfl))) rfl rfl ?_
      refine tv (fun w_ E_ => (o_ixa ar50 rfl rfl (by omega))) rfl rfl ?_
      refine tv (fun w_ E_ => (o_ld sc44 rfl ((Bg2.mod0 E_).cell rfl))) rfl rfl ?_
      refine tv (fun w_ E_ => (o_and4 rfl rfl)) rfl rfl ?_
      refine tv (fun w_ E_ => (o_ixa ar50 rfl rfl (by omega))) rfl rfl ?_
      refine tv (fun w_ E_ => (o_ld sc44 rfl ((Bg2.mod0 E_).cell rfl))) rfl rfl ?_
      refine tv (fun w_ E_ => (o_com4 rfl)) rfl rfl ?_
      refine tv (fun w_ E_ => (o_ixa ar50 rfl rfl (by omega))) rfl rfl ?_
      refine tv (fun w_ E_ => (o_ld sc44 rfl ((Bg2.mod0 E_).cell rfl))) rfl rfl ?_
      refine tv (fun w_ E_ => (o_and4 rfl rfl)) rfl rfl ?_
      refine tv (fun w_ E_ => (o_xor4 rfl rfl)) rfl rfl ?_
      refine tv (fun w_ E_ => (o_add4 rfl rfl)) rfl rfl ?_
      refine tv (fun w_ E_ => (o_mv rfl)) rfl rfl ?_
      refine tv (fun w_ E_ => (o_ixa ar65 rfl rfl (by omega))) rfl rfl ?_
      refine tv (fun w_ E_ => (o_ld sc44 rfl ((((hT.mod E h0m).mod0 E_)).c1 (nums_get hlt)))) rfl rfl ?_
      refine tv (fun w_ E_ => (o_add4 rfl rfl)) rfl rfl ?_
      refine tv (fun w_ E_ => (o_mv rfl)) rfl rfl ?_
      refine tv (fun w_ E_ => (o_ixa ar65 rfl rfl (by omega))) rfl rfl ?_
      refine tv (fun w_ E_ => (o_ld sc44 rfl ((Bg1.mod0 E_).c1 (rowW_get (xs := sch b 64) (i := i) (by rw [sch_len]; omega))))) rfl rfl ?_
      refine tv (fun w_ E_ => (o_add4 rfl rfl)) rfl rfl ?_
      refine tv (fun w_ E_ => (o_as rfl)) rfl rfl ?_
      refine tw_nil rfl fun w14 E_ => ?_
      replace Bgh := Bgh.mod0 E_
      replace Bg1 := Bg1.mod0 E_
      replace Bg2 := Bg2.mod0 E_
      replace E := E.then E_
      refine e_K (hK22 _ _ _ _ ?_)
      refine c_seq fun K23 hK23 => ?_
      refine c_draw wide (by kernel_rfl) ?_
      refine tv (fun w_ E_ => (o_ixa ar50 rfl rfl (by omega))) rfl rfl ?_
      refine tv (fun w_ E_ => (o_ld sc44 rfl ((Bg2.mod0 E_).cell rfl))) rfl rfl ?_
      refine tc (fun w_ E_ => o_call ent29 rfl) (fun w_ E_ => c_rot _ _ 2 (by decide)) rfl rfl ?_
      refine tv (fun w_ E_ => (o_ixa ar50 rfl rfl (by omega))) rfl rfl ?_
      refine tv (fun w_ E_ => (o_ld sc44 rfl ((Bg2.mod0 E_).cell rfl))) rfl rfl ?_
      refine tc (fun w_ E_ => o_call ent29 rfl) (fun w_ E_ => c_rot _ _ 13 (by decide)) rfl rfl ?_
      refine tv (fun w_ E_ => (o_xor4 rfl rfl)) rfl rfl ?_
      refine tv (fun w_ E_ => (o_ixa ar50 rfl rfl (by omega))) rfl rfl ?_
      refine tv (fun w_ E_ => (o_ld sc44 rfl ((Bg2.mod0 E_).cell rfl))) rfl rfl ?_
      refine tc (fun w_ E_ => o_call ent29 rfl) (fun w_ E_ => c_rot _ _ 22 (by decide)) rfl rfl ?_
      refine tv (fun w_ E_ => (o_xor4 rfl rfl)) rfl rfl ?_
      refine tv (fun w_ E_ => (o_as rfl)) rfl rfl ?_
      refine tw_nil rfl fun w15 E_ => ?_
      replace Bgh := Bgh.mod0 E_
      replace Bg1 := Bg1.mod0 E_
      replace Bg2 := Bg2.mod0 E_
      replace E := E.then E_
      refine e_K (hK23 _ _ _ _ ?_)
      refine c_seq fun K24 hK24 => ?_
      refine c_region ?_
      refine sv (o_mv rfl) rfl ?_
      refine sv (o_ixa ar50 rfl rfl (by omega)) rfl ?_
      refine sv (o_ld sc44 rfl (Bg2.cell rfl)) rfl ?_
      refine sv (o_ixa ar50 rfl rfl (by omega)) rfl ?_
      refine sv (o_ld sc44 rfl (Bg2.cell rfl)) rfl ?_
      refine sv (o_and4 rfl rfl) rfl ?_
      refine sv (o_ixa ar50 rfl rfl (by omega)) rfl ?_
      refine sv (o_ld sc44 rfl (Bg2.cell rfl)) rfl ?_
      refine sv (o_ixa ar50 rfl rfl (by omega)) rfl ?_
      refine sv (o_ld sc44 rfl (Bg2.cell rfl)) rfl ?_
      refine sv (o_and4 rfl rfl) rfl ?_
      refine sv (o_xor4 rfl rfl) rfl ?_
      refine sv (o_ixa ar50 rfl rfl (by omega)) rfl ?_
      refine sv (o_ld sc44 rfl (Bg2.cell rfl)) rfl ?_
      refine sv (o_ixa ar50 rfl rfl (by omega)) rfl ?_
      refine sv (o_ld sc44 rfl (Bg2.cell rfl)) rfl ?_
      refine sv (o_and4 rfl rfl) rfl ?_
      refine sv (o_xor4 rfl rfl) rfl ?_
      refine sv (o_add4 rfl rfl) rfl ?_
      refine sv (o_as rfl) rfl ?_
      refine l_nil ?_
      refine e_K (hK24 _ _ _ _ ?_)
      refine c_region ?_
      refine sv (o_mv rfl) rfl ?_
      refine sv (o_mv rfl) rfl ?_
      refine sv (o_add4 rfl rfl) rfl ?_
      refine sv (o_ixa ar50 rfl rfl (by omega)) rfl ?_
      refine sv (o_ld sc44 rfl (Bg2.cell rfl)) rfl ?_
      refine sv (o_ixa ar50 rfl rfl (by omega)) rfl ?_
      refine sv (o_ld sc44 rfl (Bg2.cell rfl)) rfl ?_
      refine sv (o_ixa ar50 rfl rfl (by omega)) rfl ?_
      refine sv (o_ld sc44 rfl (Bg2.cell rfl)) rfl ?_
      refine sv (o_ixa ar50 rfl rfl (by omega)) rfl ?_
      refine sv (o_ld sc44 rfl (Bg2.cell rfl)) rfl ?_
      refine sv (o_mv rfl) rfl ?_
      refine sv (o_add4 rfl rfl) rfl ?_
      refine sv (o_ixa ar50 rfl rfl (by omega)) rfl ?_
      refine sv (o_ld sc44 rfl (Bg2.cell rfl)) rfl ?_
      refine sv (o_ixa ar50 rfl rfl (by omega)) rfl ?_
      refine sv (o_ld sc44 rfl (Bg2.cell rfl)) rfl ?_
      refine sv (o_ixa ar50 rfl rfl (by omega)) rfl ?_
      refine sv (o_ld sc44 rfl (Bg2.cell rfl)) rfl ?_
      refine sv (o_builda (cs := [_, _, _, _, _, _, _, _]) ar50 zv50 rfl rfl) rfl ?_
      refine s_sta (vs := [_, _, _, _, _, _, _, _]) ag50 Bg2 rfl rfl rfl (by simp [W4, Value.oneCell']) (by simp) fun w16 P16 => ?_
      replace Bgh := Bgh.ne P16.mod (Ne.symm (Ne.symm Dgh_g2))
      replace Bg1 := Bg1.ne P16.mod (Ne.symm (Ne.symm Dg1_g2))
      replace E := E.own P16.mod Lg2_E
      replace Bg2 : Blk w16 g2 _ [_, _, _, _, _, _, _, _] := P16.blk
      refine l_nil ?_
      refine e_in (by simp) ?_
      refine e_K (hK19 _ _ _ _ ?_)
      refine c_region ?_
      refine sv (o_addN rfl rfl (by omega)) rfl ?_
      refine sv (o_mv rfl) rfl ?_
      refine l_nil ?_
      exact e_round (σ := Nat) (s := i) (i + 1) ⟨rfl, rfl, rfl, rfl, trivial⟩ ⟨by omega, Bg1, Bg2, Bgh, E⟩ (by omega)
    · skip
      have hi64 : i = 64 := by omega
      subst hi64
      obtain ⟨V, hV⟩ : ∃ V, V = rnds numsK (sch b 64) s 64 := ⟨_, rfl⟩
      rw [← hV] at Bg2
      refine c_exit ?_
      refine e_then (by simp) ?_
      refine e_then (by simp) ?_
      refine e_hit ?_
      refine e_K (hK15 _ _ _ _ ?_)
      refine c_seq fun K25 hK25 => ?_
      refine c_region ?_
      refine sv (o_mv rfl) rfl ?_
      refine l_nil ?_
      refine e_K (hK25 _ _ _ _ ?_)
      refine c_block ?_
      refine c_loop (σ := Nat) (fun i => [(0, .pointer (some ⟨gh, 0, none⟩)), (10, .pointer (some ⟨g2, 0, none⟩)), (162, .int .i64 (i : Int))]) (fun i w1 => i ≤ 8 ∧ Blk w1 g2 50 V.cells ∧ Blk w1 gh 53 (((List.zipWith (· + ·) s.list V.list).take i ++ s.list.drop i).map W4 ++ [wv, cnt]) ∧ Mod [gh] w w1) (fun i => 8 - i) (0) ⟨rfl, rfl, rfl, trivial⟩ (⟨by omega, Bg2, Bgh, E⟩) ?_
      rintro i w17 ⟨hi, Bg2, Bgh, E⟩
      refine c_seq fun K26 hK26 => ?_
      refine c_region ?_
      refine sv (o_lss rfl rfl) rfl ?_
      refine l_nil ?_
      refine e_K (hK26 _ _ _ _ ?_)
      refine c_seq fun K27 hK27 => ?_
      refine c_if rfl (fun h163 => ?_) (fun h163 => ?_)
      · skip
        have hlt : i < 8 := by omega
        refine c_skip ?_
        refine e_K (hK27 _ _ _ _ ?_)
        refine c_seq fun K28 hK28 => ?_
        refine c_block ?_
        refine c_seq fun K29 hK29 => ?_
        refine c_region ?_
        refine sv (o_mv rfl) rfl ?_
        refine sv (o_as rfl) rfl ?_
        refine l_nil ?_
        refine e_K (hK29 _ _ _ _ ?_)
        refine c_drawp [] [0, 1, 2, 3, 4, 5, 6, 7, 8, 9, 10, 11, 12] 13 [] wide (by kernel_rfl) (fun _ _ _ h => h.2) ?_
        refine pw_nil ?_
        refine tv (fun w_ E_ => (o_mv rfl)) rfl rfl ?_
        refine tv (fun w_ E_ => (o_mv rfl)) rfl rfl ?_
        refine tv (fun w_ E_ => (o_nilc rfl)) rfl rfl ?_
        refine tv (fun w_ E_ => (o_fa0 fd53_0 rfl)) rfl rfl ?_
        refine tv (fun w_ E_ => (o_ixa ar50 rfl rfl (by omega))) rfl rfl ?_
        refine tv (fun w_ E_ => (o_ld sc44 rfl ((Bgh.mod0 E_).c1 (mix_get (A := s.list) (Z := (List.zipWith (· + ·) s.list V.list)) (i := i) rfl hlt)))) rfl rfl ?_
        refine tv (fun w_ E_ => (o_mv rfl)) rfl rfl ?_
        refine tv (fun w_ E_ => (o_ixa ar50 rfl rfl (by omega))) rfl rfl ?_
        refine tv (fun w_ E_ => (o_ld sc44 rfl ((Bg2.mod0 E_).c1 (s8_get hlt)))) rfl rfl ?_
        refine tv (fun w_ E_ => (o_add4 rfl rfl)) rfl rfl ?_
        refine tv (fun w_ E_ => (o_nilc rfl)) rfl rfl ?_
        refine tv (fun w_ E_ => (o_fa0 fd53_0 rfl)) rfl rfl ?_
        refine tv (fun w_ E_ => (o_ixa ar50 rfl rfl (by omega))) rfl rfl ?_
        refine tw_tail rfl fun w18 E_ => ?_
        replace Bgh := Bgh.mod0 E_
        replace Bg2 := Bg2.mod0 E_
        replace E := E.then E_
        refine s_st1 (i := i) sc44 Bgh rfl rfl rfl (by simp; omega) fun wS P1 => ?_
        replace E := E.trans P1.mod
        replace Bg2 := Bg2.ne P1.mod (Ne.symm Dgh_g2)
        replace Bgh := P1.blk
        refine l_nil ?_
        refine e_in (by simp) ?_
        refine e_K (hK28 _ _ _ _ ?_)
        refine c_region ?_
        refine sv (o_addN rfl rfl (by omega)) rfl ?_
        refine sv (o_mv rfl) rfl ?_
        refine l_nil ?_
        exact e_round (σ := Nat) (s := i) (i + 1) ⟨rfl, rfl, rfl, trivial⟩ ⟨by omega, Bg2, (mix_set (A := s.list) (Z := (List.zipWith (· + ·) s.list V.list)) rfl hlt (zip_get hlt hlt)) ▸ Bgh, E⟩ (by omega)
      · skip
        have hi8 : i = 8 := by omega
        subst hi8
        refine c_exit ?_
        refine e_then (by simp) ?_
        refine e_then (by simp) ?_
        refine e_hit ?_
        exact end0 rfl ⟨by rw [comp, ← hV]; exact Bgh, E⟩

end Go.Proofs.YtccjjkdogljmpaaDoor.V
