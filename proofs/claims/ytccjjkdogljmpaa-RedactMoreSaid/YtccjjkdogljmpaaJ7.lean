/-
  A part of the proof: walks of functions, and the plain laws of what they compute. No condition of its own.
-/
import Derived.Test.YtccjjkdogljmpaaJ6
import Derived.Test.YtccjjkdogljmpaaU7
set_option linter.unusedVariables false
set_option linter.unusedSimpArgs false
set_option maxRecDepth 10000
namespace Go.Proofs.Ytccjjkdogljmpaa.V
open Go Go.Proofs
theorem ent36 : Ent Try.prog 36 := Ent.of Try.func36 (by kernel_rfl) (by kernel_rfl)
theorem c_jmap (A : List Nat) (w : World) (hA : ∀ a ∈ A, a < w.heap.size) (m : List (Str × JV)) (v : Value) (R : Rep A w (.sl 7 (m.map JV.Dp)) v) (hm : m.length ≤ 1000000) : Calls Try.prog 34 [v].toArray w (Ret fun u w' => ∃ us', u = .agg us'.toArray ∧ Reps A w' (JV.obj (putAll m m.length)).D us' ∧ Mod [] w w') := by
  refine enter Try.func34 rfl rfl rfl (l := [(0, _)]) ⟨rfl, trivial⟩ ?_
  have E := Mod.refl [] w
  obtain ⟨ad, c, rfl, hc1, hc2⟩ : ∃ ad c, v = .slice ad m.length c ∧ m.length ≤ c ∧ c ≤ 9223372036854775807 := by
    obtain ⟨ad, c, h1, h2, h3⟩ := R.sl_
    rw [List.length_map] at h1 h2
    exact ⟨ad, c, h1, h2, h3⟩
  refine c_seq fun K1 hK1 => ?_
  refine c_region ?_
  refine s_alloc zv38 rfl fun g1 w1 N1 => ?_
  have Lg1_E := N1.le E
  replace E := E.then N1.mod
  have Bg1 := N1.blk
  refine l_nil ?_
  refine e_K (hK1 _ _ _ _ ?_)
  refine c_seq fun K2 hK2 => ?_
  refine c_region ?_
  refine sv (o_build (cs := [_, _, _, _, _, _]) pl38 zv38 rfl rfl) rfl ?_
  refine s_alloc zv38 rfl fun g2 w2 N2 => ?_
  have Lg2_E := N2.le E
  have Dg1_g2 := N2.ne Bg1
  replace Bg1 := Bg1.mod0 N2.mod
  replace E := E.then N2.mod
  have Bg2 := N2.blk
  refine s_sta (vs := [_, _, _, _, _, _]) ag38 Bg2 rfl rfl rfl (by simp [Value.oneCell']) (by simp) fun w3 P3 => ?_
  replace Bg1 := Bg1.ne P3.mod (Ne.symm (Ne.symm Dg1_g2))
  replace E := E.own P3.mod Lg2_E
  replace Bg2 : Blk w3 g2 _ [_, _, _, _, _, _] := P3.blk
  refine l_nil ?_
  refine e_K (hK2 _ _ _ _ ?_)
  refine c_seq fun K3 hK3 => ?_
  refine c_seq fun K4 hK4 => ?_
  refine c_region ?_
  refine sv (o_mv rfl) rfl ?_
  refine sv (o_len Try.underlying36 rfl) rfl ?_
  refine sv (o_mv rfl) rfl ?_
  refine l_nil ?_
  refine e_K (hK4 _ _ _ _ ?_)
  refine c_block ?_
  refine c_loop (σ := Nat × Option Addr × Nat × Option Addr × Nat) (fun ⟨k, al, cl, am, cm⟩ => [(2, .pointer (some ⟨g1, 0, none⟩)), (3, .pointer (some ⟨g2, 0, none⟩)), (7, .slice ad m.length c), (8, .int .i64 m.length), (9, .int .i64 (k : Int))]) (fun ⟨k, al, cl, am, cm⟩ w1 => k ≤ m.length ∧ Reps (g1 :: g2 :: A) w1 (JV.obj (putAll m k)).D [.int .i64 5, .bool false, .int .i64 0, S [], .slice al 0 cl, .slice am (putAll m k).length cm] ∧ Blk w1 g2 38 [.int .i64 5, .bool false, .int .i64 0, S [], .slice al 0 cl, .slice am (putAll m k).length cm] ∧ Blk w1 g1 38 [.int .i64 0, .bool false, .int .i64 0, S [], .slice none 0 0, .slice none 0 0] ∧ Mod [] w w1) (fun ⟨k, al, cl, am, cm⟩ => m.length - k) (⟨0, none, 0, none, 0⟩) ⟨rfl, rfl, rfl, rfl, rfl, trivial⟩ (⟨by omega, by rw [putAll_zero]; exact JV.obj_reps Rep.sl_nil, by rw [putAll_zero]; exact Bg2, Bg1, E⟩) ?_
  rintro ⟨k, al, cl, am, cm⟩ w4 ⟨hk, Rk, Bg2, Bg1, E⟩
  have Ek := Mod.refl [] w4
  refine c_seq fun K5 hK5 => ?_
  refine c_region ?_
  refine sv (o_lss rfl rfl) rfl ?_
  refine l_nil ?_
  refine e_K (hK5 _ _ _ _ ?_)
  refine c_seq fun K6 hK6 => ?_
  refine c_if rfl (fun h10 => ?_) (fun h10 => ?_)
  · skip
    obtain ⟨x, hx_x⟩ : ∃ x, m[k]? = some x := ⟨_, List.getElem?_eq_getElem (by omega)⟩
    obtain ⟨a_x, us_x, ha_x, R_x, hcs0_x⟩ := JV.at_m R hx_x
    obtain ⟨al_x, cl_x, am_x, cm_x, rfl, Rl_x, Rm_x⟩ := JV.cells_ R_x
    have hcs_x := hcs0_x.mod0 E
    have hcap_x := JV.cap_m R
    obtain rfl := ha_x
    refine c_skip ?_
    refine e_K (hK6 _ _ _ _ ?_)
    refine c_seq fun K7 hK7 => ?_
    refine c_block ?_
    refine c_seq fun K8 hK8 => ?_
    refine c_region ?_
    refine sv (o_ix sl36 rfl rfl (by omega)) rfl ?_
    refine sv (o_lda ag49 rfl rfl hcs_x) rfl ?_
    refine s_alloc zv49 rfl fun g3 w5 N3 => ?_
    have Lg3_E := N3.le E
    have Lg3_Ek := N3.le Ek
    have Dg2_g3 := N3.ne Bg2
    have Dg1_g3 := N3.ne Bg1
    replace Bg2 := Bg2.mod0 N3.mod
    replace Bg1 := Bg1.mod0 N3.mod
    replace E := E.then N3.mod
    replace Ek := Ek.then N3.mod
    have Bg3 := N3.blk
    refine s_sta (vs := [_, _, _, _, _, _, _]) ag49 Bg3 rfl rfl rfl (by simp [Value.oneCell']) (by simp) fun w6 P6 => ?_
    replace Bg2 := Bg2.ne P6.mod (Ne.symm (Ne.symm Dg2_g3))
    replace Bg1 := Bg1.ne P6.mod (Ne.symm (Ne.symm Dg1_g3))
    replace E := E.own P6.mod Lg3_E
    replace Ek := Ek.own P6.mod Lg3_Ek
    replace Bg3 : Blk w6 g3 _ [_, _, _, _, _, _, _] := P6.blk
    refine l_nil ?_
    refine e_K (hK8 _ _ _ _ ?_)
    refine c_region ?_
    refine sv (o_lda (vs := [_, _, _, _, _, _]) ag38 rfl rfl (Bg2.cs rfl)) rfl ?_
    refine sv (o_fa0 fd49_0 rfl) rfl ?_
    refine sv (o_ld sc9 rfl (Bg3.cell rfl)) rfl ?_
    refine sv (o_fa0 fd49_1 rfl) rfl ?_
    refine sv (o_lda (vs := [_, _, _, _, _, _]) ag38 rfl rfl (Bg3.cs rfl)) rfl ?_
    have hlt2 := Bg2.lt
    have hlt1 := Bg1.lt
    have hszE := E.size
    refine sc (o_call ent36 rfl) (c_jput (g1 :: g2 :: A) _ (fun a ha => by rcases List.mem_cons.1 ha with rfl | ha; exact hlt1; rcases List.mem_cons.1 ha with rfl | ha; exact hlt2; exact Nat.lt_of_lt_of_le (hA a ha) hszE) (JV.obj (putAll m k)) x.2 _ _ (Rk.to0 Ek) ((R_x.more (A' := g1 :: g2 :: A) (fun y hy => (List.mem_cons.1 hy).elim (fun h => .inr (h ▸ Lg1_E)) fun hy => (List.mem_cons.1 hy).elim (fun h => .inr (h ▸ Lg2_E)) .inl)).to0 E) x.1 (by rw [JV.tbl_obj]; exact putAll_asc m k) (by rw [JV.tbl_obj]; have := putAll_len m k; omega)) rfl fun v_ w7 h_ => ?_
    obtain ⟨us2, rfl, Rp, E_⟩ := h_
    replace Bg2 := Bg2.mod0 E_
    replace Bg1 := Bg1.mod0 E_
    replace Bg3 := Bg3.mod0 E_
    replace E := E.then E_
    replace Ek := Ek.then E_
    rw [JV.tbl_obj, ← putAll_succ hx_x] at Rp
    obtain ⟨al2, cl2, am2, cm2, rfl, Rlp, Rmp⟩ := JV.cells_ Rp
    replace Rp := JV.reps_ Rlp Rmp
    refine s_sta (vs := [_, _, _, _, _, _]) ag38 Bg2 rfl rfl rfl (by simp [Value.oneCell']) (by simp) fun w8 P8 => ?_
    replace Bg1 := Bg1.ne P8.mod Dg1_g2
    replace Bg3 := Bg3.ne P8.mod (Ne.symm Dg2_g3)
    replace E := E.own P8.mod Lg2_E
    replace Bg2 : Blk w8 g2 _ [_, _, _, _, _, _] := P8.blk
    have Rp2 := Rp.toM P8.mod (fun y hy => by simp [List.mem_singleton.1 hy])
    refine l_nil ?_
    refine e_in (by simp) ?_
    refine e_K (hK7 _ _ _ _ ?_)
    refine c_region ?_
    refine sv (o_addN rfl rfl (by omega)) rfl ?_
    refine sv (o_mv rfl) rfl ?_
    refine l_nil ?_
    exact e_round (σ := Nat × Option Addr × Nat × Option Addr × Nat) (s := ⟨k, al, cl, am, cm⟩) (⟨k + 1, al2, cl2, am2, cm2⟩) ⟨rfl, rfl, rfl, rfl, rfl, trivial⟩ ⟨by omega, Rp2, Bg2, Bg1, E⟩ (by dsimp only; omega)
  · skip
    have hkm : k = m.length := by omega
    subst hkm
    refine c_exit ?_
    refine e_then (by simp) ?_
    refine e_then (by simp) ?_
    refine e_hit ?_
    refine e_K (hK3 _ _ _ _ ?_)
    refine c_seq fun K9 hK9 => ?_
    refine c_region ?_
    refine sv (o_lda (vs := [_, _, _, _, _, _]) ag38 rfl rfl (Bg2.cs rfl)) rfl ?_
    have Rf := Rk.to0 Ek
    refine s_sta (vs := [_, _, _, _, _, _]) ag38 Bg1 rfl rfl rfl (by simp [Value.oneCell']) (by simp) fun w9 P9 => ?_
    replace Bg2 := Bg2.ne P9.mod (Ne.symm Dg1_g2)
    replace E := E.own P9.mod Lg1_E
    replace Bg1 : Blk w9 g1 _ [_, _, _, _, _, _] := P9.blk
    have Rf2 := (Rf.toM P9.mod (fun y hy => by simp [List.mem_singleton.1 hy])).anti (A' := A) (fun y hy => List.mem_cons_of_mem _ (List.mem_cons_of_mem _ hy))
    refine l_nil ?_
    refine e_K (hK9 _ _ _ _ ?_)
    refine c_ret ?_
    exact retc (vs := [_, _, _, _, _, _]) rfl ag38 rfl rfl (Bg1.cs rfl) ⟨_, rfl, Rf2, E⟩
end Go.Proofs.Ytccjjkdogljmpaa.V
