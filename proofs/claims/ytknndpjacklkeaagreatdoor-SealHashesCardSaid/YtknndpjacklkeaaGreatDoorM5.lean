/-
  A part of the proof: a text between quotes, byte by byte; errors' numbers. No condition of its own.
-/
import Derived.Test.YtknndpjacklkeaaGreatDoorM4
import Derived.Test.YtknndpjacklkeaaGreatDoorProg
import Derived.Test.YtknndpjacklkeaaGreatDoorM3
set_option linter.unusedVariables false
set_option linter.unusedSimpArgs false
set_option maxRecDepth 10000
namespace Go.Proofs.YtknndpjacklkeaaGreatDoor.V
open Go Go.Proofs
theorem zv25 : zvB Tryz.prog 25 ([.int .i64 0, .bool false, .int .i64 0, S [], .slice none 0 0, .slice none 0 0]) := by unfold zvB; kernel_rfl
theorem ent60 : Ent Tryz.prog 60 := Ent.of Tryz.func60 (by kernel_rfl) (by kernel_rfl)
theorem pl25 : plB Tryz.prog 25 [(0, 1), (1, 1), (2, 1), (3, 1), (4, 1), (5, 1)] = true := by kernel_rfl
theorem c_jget (A : List Nat) (w0 w : World) (E0 : Mod [] w0 w) (v : JV) (us : List Value) (R : Reps A w0 v.D us) (k : Str) (ha : ascM v.map) (hn : v.map.length ≤ 1353245080310) : Calls Tryz.prog 74 [.agg us.toArray, S k].toArray w (Ret fun u w' => ∃ us', u = .tuple #[.agg us'.toArray, .bool (v.get k).isSome] ∧ Reps A w0 ((v.get k).getD JV.nul).D us' ∧ Mod [] w w') := by
 refine enter Tryz.func74 rfl rfl rfl (l := [(0, _), (1, _)]) ⟨rfl, rfl, trivial⟩ ?_
 have E := Mod.refl [] w
 obtain ⟨al, cl, am, cm, rfl, Rl, Rm⟩ := JV.cells_ R
 refine Cq fun K1 hK1 => Cr (s_box rfl rfl rfl fun g1 w1 N1 => ?_)
 have Lg1_E := N1.le E
 replace E := E.then N1.mod
 have Bg1 := N1.blk
 refine s_alloc zv25 rfl fun g2 w2 N2 => ?_
 have Lg2_E := N2.le E
 have Dg1_g2 := N2.ne Bg1
 replace Bg1 := Bg1.mod0 N2.mod
 replace E := E.then N2.mod
 have Bg2 := N2.blk
 refine Za rfl (Ln (e_K (hK1 _ _ _ _ (Cq fun K2 hK2 => Cr (Sv (oA0 fd25_5 rfl) (Sv (oL sc23 rfl (Bg1.cell rfl)) (Zm rfl (sc (oC ent60 rfl) (c_jfind _ v.map _ ((Rm.anti (by simp)).to0 (E0.then E)) k ha hn) rfl fun v_ w3 h_ => ?_))))))))
 obtain ⟨rfl, E_⟩ := h_
 replace Bg1 := Bg1.mod0 E_
 replace Bg2 := Bg2.mod0 E_
 replace E := E.then E_
 refine tW 5 rfl (Ln (e_K (hK2 _ _ _ _ (Cq fun K3 hK3 => Cq fun K4 hK4 => Cr (Sv (oA0 fd25_0 rfl) (Sv (oL sc3 rfl (Bg1.cell rfl)) (Sv (o_neq rfl rfl) ?_)))))))
 refine bD (fun hs2_0 : v.kind ≠ 5 => ?_) (fun hs2_0 => ?_)
 ·refine tW 4 rfl (Ln (e_K (hK4 _ _ _ _ (c_true rfl ?_))))
  have hno : v.get k = none := by simp [JV.get, hs2_0]
  refine Cq fun K5 hK5 => Cr (Sv (o_build (cs := [_, _, _, _, _, _]) pl25 zv25 rfl rfl) (s_sta (vs := [_, _, _, _, _, _]) ag25 Bg2 rfl rfl rfl (by simp [Value.oneCell']) (by simp) fun w4 P4 => ?_))
  replace Bg1 := Bg1.ne P4.mod (Ne.symm (Ne.symm Dg1_g2))
  replace E := E.own P4.mod Lg2_E
  replace Bg2 : Blk w4 g2 _ [_, _, _, _, _, _] := P4.blk
  exact Za rfl (Ln (e_K (hK5 _ _ _ _ (cR (eT (by simp) (retct (vs := [_, _, _, _, _, _]) rfl ag25 rfl rfl (Bg2.cs rfl) rfl ⟨_, by rw [hno]; rfl, by rw [hno]; exact JV.nul_reps, E⟩))))))
 ·refine tW 4 rfl (Ln (e_K (hK4 _ _ _ _ ?_)))
  refine c_cond rfl (fun h21 => ?_) (fun h21 => ?_)
  ·have hno : v.get k = none := by
    have h : look v.map k = none := by simpa using h21
    simp [JV.get, h]
   refine Cq fun K6 hK6 => Cr (Sv (o_build (cs := [_, _, _, _, _, _]) pl25 zv25 rfl rfl) (s_sta (vs := [_, _, _, _, _, _]) ag25 Bg2 rfl rfl rfl (by simp [Value.oneCell']) (by simp) fun w5 P5 => ?_))
   replace Bg1 := Bg1.ne P5.mod (Ne.symm (Ne.symm Dg1_g2))
   replace E := E.own P5.mod Lg2_E
   replace Bg2 : Blk w5 g2 _ [_, _, _, _, _, _] := P5.blk
   exact Za rfl (Ln (e_K (hK6 _ _ _ _ (cR (eT (by simp) (retct (vs := [_, _, _, _, _, _]) rfl ag25 rfl rfl (Bg2.cs rfl) rfl ⟨_, by rw [hno]; rfl, by rw [hno]; exact JV.nul_reps, E⟩))))))
  ·have hk5 : v.kind = 5 := Classical.byContradiction hs2_0
   obtain ⟨x, hx_x, hxk, hxl⟩ := isM_some ha (by simpa using h21)
   have hget : v.get k = some x.2 := by simp [JV.get, hk5, hxl]
   have hpl := (List.getElem?_eq_some_iff.1 hx_x).1
   obtain ⟨a_x, us_x, ha_x, R_x, hcs0_x⟩ := JV.at_m Rm hx_x
   obtain ⟨al_x, cl_x, am_x, cm_x, rfl, Rl_x, Rm_x⟩ := JV.cells_ R_x
   have hcs_x := hcs0_x.mod0 (E0.then E)
   obtain rfl := ha_x
   refine cK (e_K (hK3 _ _ _ _ (Cq fun K7 hK7 => Cr (Sv (oA0 fd25_5 rfl) (Sv (oL sc23 rfl (Bg1.cell rfl)) (Zm rfl (Sv (o_ix sl23 rfl rfl (by omega)) (Sv (o_fad fd44_1 rfl) (Sv (o_lda ag25 rfl rfl hcs_x.tail_) (s_sta (vs := [_, _, _, _, _, _]) ag25 Bg2 rfl rfl rfl (by simp [Value.oneCell']) (by simp) fun w6 P6 => ?_))))))))))
   replace Bg1 := Bg1.ne P6.mod (Ne.symm (Ne.symm Dg1_g2))
   replace E := E.own P6.mod Lg2_E
   replace Bg2 : Blk w6 g2 _ [_, _, _, _, _, _] := P6.blk
   exact Za rfl (Ln (e_K (hK7 _ _ _ _ (cR (retct (vs := [_, _, _, _, _, _]) rfl ag25 rfl rfl (Bg2.cs rfl) rfl ⟨_, by rw [hget]; rfl, by rw [hget]; exact R_x, E⟩)))))

theorem c_jtable (A : List Nat) (w0 w : World) (v : JV) (us : List Value) (R : Reps A w0 v.D us) : Calls Tryz.prog 59 [.agg us.toArray].toArray w (Ret fun u w' => Rep A w0 (.sl 7 (v.tbl.map JV.Dp)) u ∧ Mod [] w w') := by
 refine enter Tryz.func59 rfl rfl rfl (l := [(0, _)]) ⟨rfl, trivial⟩ ?_
 have E := Mod.refl [] w
 obtain ⟨al, cl, am, cm, rfl, Rl, Rm⟩ := JV.cells_ R
 refine Cq fun K1 hK1 => Cr (s_box rfl rfl rfl fun g1 w1 N1 => ?_)
 have Lg1_E := N1.le E
 replace E := E.then N1.mod
 have Bg1 := N1.blk
 refine Za rfl (Ln (e_K (hK1 _ _ _ _ (Cq fun K2 hK2 => Cq fun K3 hK3 => Cr (Sv (oA0 fd25_0 rfl) (Sv (oL sc3 rfl (Bg1.cell rfl)) (Sv (o_neq rfl rfl) (Ln (e_K (hK3 _ _ _ _ ?_))))))))))
 refine c_if rfl (fun h5 => ?_) (fun h5 => ?_)
 ·have ht : v.tbl = [] := by simp [JV.tbl, h5]
  exact Cq fun K4 hK4 => Cr (Za rfl (Ln (e_K (hK4 _ _ _ _ (cR (eT (by simp) (ret1 rfl rfl ⟨by rw [ht]; exact Rep.sl_nil, E⟩)))))))
 ·have ht : v.tbl = v.map := by simp [JV.tbl]; intro h; exact absurd h h5
  exact cK (e_K (hK2 _ _ _ _ (Cq fun K5 hK5 => Cr (Sv (oA0 fd25_5 rfl) (Sv (oL sc23 rfl (Bg1.cell rfl)) (Za rfl (Ln (e_K (hK5 _ _ _ _ (cR (ret1 rfl rfl ⟨by rw [ht]; exact Rm, E⟩)))))))))))

theorem c_jfindR (A : List Nat) (w0 w : World) (E0 : Mod [] w0 w) (m : List (Str × JV)) (v : Value) (R : Rep A w0 (.sl 7 (m.map JV.Dp)) v) (k : Str) : Calls Tryz.prog 77 [v, S k].toArray w (Ret fun u w' => ∃ us', u = .tuple #[.agg us'.toArray, .bool (look m k).isSome] ∧ Reps A w0 ((look m k).getD JV.nul).D us' ∧ Mod [] w w') := by
 refine enter Tryz.func77 rfl rfl rfl (l := [(0, _), (1, _)]) ⟨rfl, rfl, trivial⟩ ?_
 have E := Mod.refl [] w
 obtain ⟨ad, c, rfl, hc1, hc2⟩ : ∃ ad c, v = .slice ad m.length c ∧ m.length ≤ c ∧ c ≤ 9223372036854775807 := by
  obtain ⟨ad, c, h1, h2, h3⟩ := R.sl_
  rw [List.length_map] at h1 h2
  exact ⟨ad, c, h1, h2, h3⟩
 refine Cq fun K1 hK1 => Cr (s_alloc zv25 rfl fun g1 w1 N1 => ?_)
 have Lg1_E := N1.le E
 replace E := E.then N1.mod
 have Bg1 := N1.blk
 refine Za rfl (Ln (e_K (hK1 _ _ _ _ (Cq fun K2 hK2 => Cq fun K3 hK3 => Cr (Zm rfl (Sv (o_len Tryz.underlying23 rfl) (Zm rfl (Ln (e_K (hK3 _ _ _ _ (cB (c_loop (σ := Nat) (fun i => [(1, S k), (4, .pointer (some ⟨g1, 0, none⟩)), (5, .bool false), (8, .slice ad m.length c), (9, .int .i64 m.length), (10, .int .i64 (i : Int))]) (fun i w1 => i ≤ m.length ∧ (∀ (j : Nat) (y : Str × JV), j < i → m[j]? = some y → y.1 ≠ k) ∧ Blk w1 g1 25 [.int .i64 0, .bool false, .int .i64 0, S [], .slice none 0 0, .slice none 0 0] ∧ w.heap.size ≤ g1 ∧ Mod [] w w1) (fun i => m.length - i) (0) ⟨rfl, rfl, rfl, rfl, rfl, rfl, trivial⟩ (⟨by omega, fun j y h => by omega, Bg1, Lg1_E, E⟩) ?_))))))))))))
 rintro i w2 ⟨hi, hA, Bg1, Lg1_E, E⟩
 refine Cq fun K4 hK4 => Cr (Sv (o_lss rfl rfl) (Ln (e_K (hK4 _ _ _ _ (Cq fun K5 hK5 => ?_)))))
 refine c_if rfl (fun h11 => ?_) (fun h11 => ?_)
 ·obtain ⟨x, hx_x⟩ : ∃ x, m[i]? = some x := ⟨_, List.getElem?_eq_getElem (by omega)⟩
  obtain ⟨a_x, us_x, ha_x, R_x, hcs0_x⟩ := JV.at_m R hx_x
  obtain ⟨al_x, cl_x, am_x, cm_x, rfl, Rl_x, Rm_x⟩ := JV.cells_ R_x
  have hcs_x := hcs0_x.mod0 (E0.then E)
  have hcap_x := JV.cap_m R
  obtain rfl := ha_x
  refine cK (e_K (hK5 _ _ _ _ (Cq fun K6 hK6 => cB (Cq fun K7 hK7 => Cr (Sv (o_ix sl23 rfl rfl (by omega)) (Sv (o_lda ag44 rfl rfl hcs_x) (s_alloc zv44 rfl fun g2 w3 N2 => ?_)))))))
  have Lg2_E := N2.le E
  have Dg1_g2 := N2.ne Bg1
  replace Bg1 := Bg1.mod0 N2.mod
  replace E := E.then N2.mod
  have Bg2 := N2.blk
  refine s_sta (vs := [_, _, _, _, _, _, _]) ag44 Bg2 rfl rfl rfl (by simp [Value.oneCell']) (by simp) fun w4 P4 => ?_
  replace Bg1 := Bg1.ne P4.mod (Ne.symm (Ne.symm Dg1_g2))
  replace E := E.own P4.mod Lg2_E
  replace Bg2 : Blk w4 g2 _ [_, _, _, _, _, _, _] := P4.blk
  refine Ln (e_K (hK7 _ _ _ _ (Cq fun K8 hK8 => Cr (Sv (oA0 fd44_0 rfl) (Sv (oL sc9 rfl (Bg2.cell rfl)) (Zm rfl (Sv (o_seq rfl rfl) (Ln (e_K (hK8 _ _ _ _ ?_))))))))))
  refine c_if rfl (fun h17 => ?_) (fun h17 => ?_)
  ·have hlk : look m k = some x.2 := look_hit hA hx_x h17
   refine Cq fun K9 hK9 => Cr (Sv (oA0 fd44_1 rfl) (Sv (o_lda (vs := [_, _, _, _, _, _]) ag25 rfl rfl (Bg2.cs rfl)) (s_sta (vs := [_, _, _, _, _, _]) ag25 Bg1 rfl rfl rfl (by simp [Value.oneCell']) (by simp) fun w5 P5 => ?_)))
   replace Bg2 := Bg2.ne P5.mod (Ne.symm Dg1_g2)
   replace E := E.own P5.mod Lg1_E
   replace Bg1 : Blk w5 g1 _ [_, _, _, _, _, _] := P5.blk
   exact Za rfl (Ln (e_K (hK9 _ _ _ _ (cR (eI (by simp) (eT (by simp) (eT (by simp) (eI (by simp) (eT (by simp) (retct (vs := [_, _, _, _, _, _]) rfl ag25 rfl rfl (Bg1.cs rfl) rfl ⟨_, by rw [hlk]; rfl, by rw [hlk]; exact R_x, E⟩))))))))))
  ·have hA2 : ∀ (j : Nat) (y : Str × JV), j < i + 1 → m[j]? = some y → y.1 ≠ k := fun j y hj hy => by
    rcases Nat.lt_succ_iff_lt_or_eq.1 hj with h | h
    ·exact hA j y h hy
    ·subst h; rw [hx_x] at hy; injection hy with hy; subst hy; exact h17
   exact cK (eI (by simp) (e_K (hK6 _ _ _ _ (Cr (Sv (o_addN rfl rfl (by omega)) (Zm rfl (Ln (eR (σ := Nat) (s := i) (i + 1) ⟨rfl, rfl, rfl, rfl, rfl, rfl, trivial⟩ ⟨by omega, hA2, Bg1, Lg1_E, E⟩ (by omega)))))))))
 ·refine c_exit (eT (by simp) (eT (by simp) (e_hit (e_K (hK2 _ _ _ _ (Cq fun K10 hK10 => Cr (Sv (o_build (cs := [_, _, _, _, _, _]) pl25 zv25 rfl rfl) (s_sta (vs := [_, _, _, _, _, _]) ag25 Bg1 rfl rfl rfl (by simp [Value.oneCell']) (by simp) fun w6 P6 => ?_))))))))
  replace E := E.own P6.mod Lg1_E
  replace Bg1 : Blk w6 g1 _ [_, _, _, _, _, _] := P6.blk
  exact Za rfl (Ln (e_K (hK10 _ _ _ _ (cR (retct (vs := [_, _, _, _, _, _]) rfl ag25 rfl rfl (Bg1.cs rfl) rfl ⟨_, by rw [look_none_of fun j y hy => hA j y (by have := (List.getElem?_eq_some_iff.1 hy).1; omega) hy]; rfl, by rw [look_none_of fun j y hy => hA j y (by have := (List.getElem?_eq_some_iff.1 hy).1; omega) hy]; exact JV.nul_reps, E⟩)))))
end Go.Proofs.YtknndpjacklkeaaGreatDoor.V

set_option linter.unusedVariables false
set_option linter.unusedSimpArgs false
set_option maxRecDepth 10000
namespace Go.Proofs.YtknndpjacklkeaaGreatDoor.V
open Go Go.Proofs

theorem c_rune (w : World) (s : Str) : Calls Tryz.prog 147 [S s].toArray w (Ret fun u w' => u = .tuple #[.int .i64 ((runeR s).1 : Int), .int .i64 ((runeR s).2 : Int)] ∧ Mod [] w w') := by
 refine enter Tryz.func147 rfl rfl rfl (l := [(0, _)]) ⟨rfl, trivial⟩ ?_
 have E := Mod.refl [] w
 refine Cq fun K1 hK1 => Cr (tW 2 rfl (Ln (e_K (hK1 _ _ _ _ (Cq fun K2 hK2 => Cq fun K3 hK3 => Cr (Zm rfl (Sv (o_seq rfl rfl) (Ln (e_K (hK3 _ _ _ _ ?_))))))))))
 refine c_if rfl (fun h9 => ?_) (fun h9 => ?_)
 ·have hs0 : s = [] := h9
  subst hs0
  have hR : runeR [] = (0, 0) := rfl
  exact Cq fun K4 hK4 => Cr (tW 2 rfl (Ln (e_K (hK4 _ _ _ _ (cR (eT (by simp) (ret2 rfl rfl rfl ⟨by rw [hR]; try rfl, E⟩)))))))
 ·obtain ⟨b0, r, rfl⟩ : ∃ b0 r, s = b0 :: r := by
   cases s with
   | nil => exact absurd rfl h9
   | cons b0 r => exact ⟨b0, r, rfl⟩
  have hb0 := b0.toNat_lt
  have hlen : (b0 :: r).length = r.length + 1 := rfl
  refine cK (e_K (hK2 _ _ _ _ (Cq fun K5 hK5 => Cr (Zm rfl (s_sidx (m := 0) Tryz.underlying9 rfl rfl (by omega) (by simp) rfl fun b0_ hb0_ => ?_)))))
  obtain rfl : b0 = b0_ := by simpa using hb0_
  refine Sv (o_convE (r := (b0.toNat : Int)) Tryz.underlying5 Tryz.underlying3 rfl (wrap64_in _ (by omega))) (Za rfl (Ln (e_K (hK5 _ _ _ _ (Cq fun K6 hK6 => Cq fun K7 hK7 => Cr (tW 2 rfl (Ln (e_K (hK7 _ _ _ _ ?_)))))))))
  refine c_if rfl (fun h14 => ?_) (fun h14 => ?_)
  ·have hR := runeR_small (b0 := b0) (r := r) (by omega)
   exact Cq fun K8 hK8 => Cr (tW 3 rfl (Ln (e_K (hK8 _ _ _ _ (cR (eT (by simp) (ret2 rfl rfl rfl ⟨by rw [hR]; try rfl, E⟩)))))))
  ·have hge : ¬ b0.toNat < 128 := by omega
   refine cK (e_K (hK6 _ _ _ _ (Cq fun K9 hK9 => Cr (Za rfl (Ln (e_K (hK9 _ _ _ _ (Cq fun K10 hK10 => Cr (Za rfl (Ln (e_K (hK10 _ _ _ _ (Cq fun K11 hK11 => ?_)))))))))))))
   have J11 : ∀ (n l c : Nat) (w1 : World), runeH b0.toNat = (n, l, c) ∧ (n = 0 ∨ c < 32 ∧ 2 ≤ n ∧ n ≤ 4) ∧ Mod [] w w1 → ∀ a, Has 91 [] [(0, S (b0 :: r)), (4, .int .i64 (c : Int)), (5, .int .i64 (n : Int)), (6, .int .i64 (l : Int))] a → K11 a w1 := by
    intro n l c w1 hI
    obtain ⟨hH, hn, E⟩ := hI
    refine hK11 _ _ _ _ (Cq fun K12 hK12 => Cq fun K13 hK13 => Cr (tW 2 rfl ?_))
    refine bD (fun hs20_0 : (n : Int) = 0 => ?_) (fun hs20_0 => ?_)
    ·refine tW 6 rfl (Ln (e_K (hK13 _ _ _ _ (c_true rfl ?_))))
     have hR := runeR_short (r := r) hge hH (.inl (by omega))
     exact Cq fun K14 hK14 => Cr (tW 2 rfl (Ln (e_K (hK14 _ _ _ _ (cR (eT (by simp) (ret2 rfl rfl rfl ⟨by rw [hR]; try rfl, E⟩)))))))
    ·refine tW 2 rfl (Sg rfl rfl (o_slen Tryz.underlying9 rfl) (tW 2 rfl ?_))
     refine bD (fun hs20_1 : ((b0 :: r).length : Int) < n => ?_) (fun hs20_1 => ?_)
     ·refine Sv (oF rfl rfl rfl) (Ln (e_K (hK13 _ _ _ _ (c_true rfl ?_))))
      have hR := runeR_short (r := r) hge hH (.inr (by omega))
      exact Cq fun K15 hK15 => Cr (tW 2 rfl (Ln (e_K (hK15 _ _ _ _ (cR (eT (by simp) (ret2 rfl rfl rfl ⟨by rw [hR]; try rfl, E⟩)))))))
     ·refine Sv (oF rfl rfl rfl) (Ln (e_K (hK13 _ _ _ _ (c_false rfl ?_))))
      have hln : ¬ (n = 0 ∨ (b0 :: r).length < n) := by omega
      refine cK (e_K (hK12 _ _ _ _ (Cq fun K16 hK16 => Cq fun K17 hK17 => Cr (Za rfl (Ln (e_K (hK17 _ _ _ _ (cB (c_loop (σ := Nat × Nat) (fun ⟨i, d⟩ => [(0, S (b0 :: r)), (4, .int .i64 (d : Int)), (5, .int .i64 (n : Int)), (6, .int .i64 (l : Int)), (7, .int .i64 (i : Int))]) (fun ⟨i, d⟩ w1 => 1 ≤ i ∧ i ≤ n ∧ runeC ((r.take (n - 1)).drop (i - 1)) d = runeC (r.take (n - 1)) c ∧ ((i = 1 ∧ d < 64) ∨ (i = 2 ∧ d < 4096) ∨ (i = 3 ∧ d < 262144) ∨ (i = 4 ∧ d < 16777216)) ∧ Mod [] w w1) (fun ⟨i, d⟩ => n - i) (⟨1, c⟩) ⟨rfl, rfl, rfl, rfl, rfl, trivial⟩ (⟨by omega, by omega, rfl, by omega, E⟩) ?_)))))))))
      rintro ⟨i, d⟩ w2 ⟨hi1, hi, hC, hd, E⟩
      refine Cq fun K18 hK18 => Cq fun K19 hK19 => Cr (tW 3 rfl (Ln (e_K (hK19 _ _ _ _ ?_))))
      refine c_if rfl (fun h53 => ?_) (fun h53 => ?_)
      ·obtain ⟨b1, hb1⟩ : ∃ b1, (b0 :: r)[i]? = some b1 := ⟨_, List.getElem?_eq_getElem (by omega)⟩
       have hb1r : (r.take (n - 1))[i - 1]? = some b1 := by
        rw [List.getElem?_take, if_pos (by omega)]
        rw [← hb1]
        obtain ⟨j, rfl⟩ : ∃ j, i = j + 1 := ⟨i - 1, by omega⟩
        simp
       have hb1l := b1.toNat_lt
       refine cK (e_K (hK18 _ _ _ _ (Cq fun K20 hK20 => cB (Cq fun K21 hK21 => Cq fun K22 hK22 => Cr (tW 2 rfl (s_sidx (m := i) Tryz.underlying9 rfl rfl (by omega) (by simp; omega) rfl fun b1_ hb1_ => ?_))))))
       obtain rfl : b1 = b1_ := by rw [Int.toNat_natCast, hb1] at hb1_; injection hb1_
       refine Sv (o_lss rfl rfl) ?_
       refine bD (fun hs25_0 : (b1.toNat : Int) < 128 => ?_) (fun hs25_0 => ?_)
       ·refine tW 6 rfl (Ln (e_K (hK22 _ _ _ _ (c_true rfl ?_))))
        have hR := runeR_none hge hH hln (by rw [← hC]; exact runeC_no hb1r (.inl (by omega)))
        exact Cq fun K23 hK23 => Cr (tW 2 rfl (Ln (e_K (hK23 _ _ _ _ (cR (eT (by simp) (eI (by simp) (eT (by simp) (eT (by simp) (eI (by simp) (eT (by simp) (ret2 rfl rfl rfl ⟨by rw [hR]; try rfl, E⟩))))))))))))
       ·refine tW 3 rfl (Sg rfl rfl (o_sidx Tryz.underlying9 rfl rfl (by omega) (by rw [Int.toNat_natCast]; exact hb1)) (Sg rfl rfl (o_geq rfl rfl) ?_))
        refine bD (fun hs25_1 : (b1.toNat : Int) ≥ 192 => ?_) (fun hs25_1 => ?_)
        ·refine Sv (oF rfl rfl rfl) (Ln (e_K (hK22 _ _ _ _ (c_true rfl ?_))))
         have hR := runeR_none hge hH hln (by rw [← hC]; exact runeC_no hb1r (.inr (by omega)))
         exact Cq fun K24 hK24 => Cr (tW 2 rfl (Ln (e_K (hK24 _ _ _ _ (cR (eT (by simp) (eI (by simp) (eT (by simp) (eT (by simp) (eI (by simp) (eT (by simp) (ret2 rfl rfl rfl ⟨by rw [hR]; try rfl, E⟩))))))))))))
        ·refine Sv (oF rfl rfl rfl) (Ln (e_K (hK22 _ _ _ _ (c_false rfl ?_))))
         have hst := runeC_go (d := d) hb1r (by omega)
         rw [show i - 1 + 1 = i by omega] at hst
         refine cK (e_K (hK21 _ _ _ _ (Cr (Zm rfl (Sv (o_mulE (r := ((d * 64 : Nat) : Int)) rfl rfl (by rw [wrap64_in _ (by omega)]; omega)) (tW 2 rfl (Sv (o_sidx Tryz.underlying9 rfl rfl (by omega) (by rw [Int.toNat_natCast]; exact hb1)) (Sv (o_convE (r := (b1.toNat : Int)) Tryz.underlying5 Tryz.underlying3 rfl (wrap64_in _ (by omega))) (Sv ((o_remN rfl rfl (by omega)).to (v' := .int .i64 ((b1.toNat % 64 : Nat) : Int)) (by rw [Int.natCast_emod]; try rfl)) (Sv (o_addE (r := ((d * 64 + b1.toNat % 64 : Nat) : Int)) rfl rfl (by rw [wrap64_in _ (by omega)]; omega)) (Za rfl (Ln (eI (by simp) (e_K (hK20 _ _ _ _ ?_)))))))))))))))
         exact Cr (Zm rfl (Sv (o_addN rfl rfl (by omega)) (Za rfl (Ln (eR (σ := Nat × Nat) (s := ⟨i, d⟩) (⟨i + 1, d * 64 + b1.toNat % 64⟩) ⟨rfl, rfl, rfl, rfl, rfl, trivial⟩ ⟨by omega, by omega, by rw [show i + 1 - 1 = i by omega, ← hst]; exact hC, by omega, E⟩ (by dsimp only; omega))))))
      ·have hend : runeC (r.take (n - 1)) c = some d := by rw [← hC, List.drop_eq_nil_of_le (by rw [List.length_take]; omega)]; rfl
       refine c_exit (eT (by simp) (eT (by simp) (e_hit (e_K (hK16 _ _ _ _ (Cq fun K25 hK25 => Cq fun K26 hK26 => Cr (tW 3 rfl ?_)))))))
       refine bD (fun hs28_0 : (d : Int) < l => ?_) (fun hs28_0 => ?_)
       ·refine tW 12 rfl (Ln (e_K (hK26 _ _ _ _ (c_true rfl ?_))))
        have hR := runeR_bad hge hH hln hend (by omega)
        exact Cq fun K27 hK27 => Cr (tW 2 rfl (Ln (e_K (hK27 _ _ _ _ (cR (eT (by simp) (ret2 rfl rfl rfl ⟨by rw [hR]; try rfl, E⟩)))))))
       ·refine tW 3 rfl ?_
        refine bD (fun hs28_1 : (d : Int) > 1114111 => ?_) (fun hs28_1 => ?_)
        ·refine tW 9 rfl (Ln (e_K (hK26 _ _ _ _ (c_true rfl ?_))))
         have hR := runeR_bad hge hH hln hend (by omega)
         exact Cq fun K28 hK28 => Cr (tW 2 rfl (Ln (e_K (hK28 _ _ _ _ (cR (eT (by simp) (ret2 rfl rfl rfl ⟨by rw [hR]; try rfl, E⟩)))))))
        ·refine tW 3 rfl (Sg rfl rfl (o_geq rfl rfl) ?_)
         refine bD (fun hs28_2 : (d : Int) ≥ 55296 => ?_) (fun hs28_2 => ?_)
         ·refine tW 5 rfl (Ln (e_K (hK26 _ _ _ _ ?_)))
          refine c_if rfl (fun h88 => ?_) (fun h88 => ?_)
          ·have hR := runeR_bad hge hH hln hend (by omega)
           exact Cq fun K29 hK29 => Cr (tW 2 rfl (Ln (e_K (hK29 _ _ _ _ (cR (eT (by simp) (ret2 rfl rfl rfl ⟨by rw [hR]; try rfl, E⟩)))))))
          ·have hR := runeR_good hge hH hln hend (by omega)
           exact cK (e_K (hK25 _ _ _ _ (Cq fun K30 hK30 => Cr (tW 4 rfl (Ln (e_K (hK30 _ _ _ _ (cR (ret2 rfl rfl rfl ⟨by rw [hR]; try rfl, E⟩)))))))))
         ·refine tW 5 rfl (Ln (e_K (hK26 _ _ _ _ (c_false rfl ?_))))
          have hR := runeR_good hge hH hln hend (by omega)
          exact cK (e_K (hK25 _ _ _ _ (Cq fun K31 hK31 => Cr (tW 4 rfl (Ln (e_K (hK31 _ _ _ _ (cR (ret2 rfl rfl rfl ⟨by rw [hR]; try rfl, E⟩)))))))))
   refine cB (Cq fun K32 hK32 => Cr (Zm rfl (Sv (o_geq rfl rfl) ?_)))
   refine bD (fun hs8_0 : (b0.toNat : Int) ≥ 192 => ?_) (fun hs8_0 => ?_)
   ·refine tW 3 rfl ?_
    refine bD (fun hs8_1 : (b0.toNat : Int) < 224 => ?_) (fun hs8_1 => ?_)
    ·refine tW 2 rfl (Ln (e_K (hK32 _ _ _ _ (c_true rfl (Cq fun K33 hK33 => Cr (Za rfl (Ln (e_K (hK33 _ _ _ _ (Cq fun K34 hK34 => Cr (Za rfl (Ln (e_K (hK34 _ _ _ _ ?_))))))))))))))
     refine Cr (Zm rfl (Sv ((o_remN rfl rfl (by omega)).to (v' := .int .i64 ((b0.toNat % 32 : Nat) : Int)) (by rw [Int.natCast_emod]; try rfl)) (Za rfl (Ln (eI (by simp) ?_)))))
     refine WE.sub (l' := [(0, _), (4, _), (5, _), (6, _)]) ⟨rfl, rfl, rfl, rfl, trivial⟩ (e_K (J11 2 128 (b0.toNat % 32) w ⟨by unfold runeH; rw [if_pos (by omega)], by omega, E⟩))
    ·refine tW 2 rfl (Ln (e_K (hK32 _ _ _ _ (c_false rfl (Cq fun K35 hK35 => Cr (Zm rfl (Sv (o_geq rfl rfl) ?_)))))))
     refine bD (fun hs12_0 : (b0.toNat : Int) ≥ 224 => ?_) (fun hs12_0 => ?_)
     ·refine tW 3 rfl ?_
      refine bD (fun hs12_1 : (b0.toNat : Int) < 240 => ?_) (fun hs12_1 => ?_)
      ·refine tW 2 rfl (Ln (e_K (hK35 _ _ _ _ (c_true rfl (Cq fun K36 hK36 => Cr (Za rfl (Ln (e_K (hK36 _ _ _ _ (Cq fun K37 hK37 => Cr (Za rfl (Ln (e_K (hK37 _ _ _ _ ?_))))))))))))))
       refine Cr (Zm rfl (Sv ((o_remN rfl rfl (by omega)).to (v' := .int .i64 ((b0.toNat % 16 : Nat) : Int)) (by rw [Int.natCast_emod]; try rfl)) (Za rfl (Ln (eI (by simp) ?_)))))
       refine WE.sub (l' := [(0, _), (4, _), (5, _), (6, _)]) ⟨rfl, rfl, rfl, rfl, trivial⟩ (e_K (J11 3 2048 (b0.toNat % 16) w ⟨by unfold runeH; rw [if_neg (by omega), if_pos (by omega)], by omega, E⟩))
      ·refine tW 2 rfl (Ln (e_K (hK35 _ _ _ _ (c_false rfl (Cq fun K38 hK38 => Cr (Zm rfl (Sv (o_geq rfl rfl) ?_)))))))
       refine bD (fun hs16_0 : (b0.toNat : Int) ≥ 240 => ?_) (fun hs16_0 => ?_)
       ·refine tW 3 rfl ?_
        refine bD (fun hs16_1 : (b0.toNat : Int) < 248 => ?_) (fun hs16_1 => ?_)
        ·refine tW 2 rfl (Ln (e_K (hK38 _ _ _ _ (c_true rfl (Cq fun K39 hK39 => Cr (Za rfl (Ln (e_K (hK39 _ _ _ _ (Cq fun K40 hK40 => Cr (Za rfl (Ln (e_K (hK40 _ _ _ _ ?_))))))))))))))
         refine Cr (Zm rfl (Sv ((o_remN rfl rfl (by omega)).to (v' := .int .i64 ((b0.toNat % 8 : Nat) : Int)) (by rw [Int.natCast_emod]; try rfl)) (Za rfl (Ln (eI (by simp) ?_)))))
         refine WE.sub (l' := [(0, _), (4, _), (5, _), (6, _)]) ⟨rfl, rfl, rfl, rfl, trivial⟩ (e_K (J11 4 65536 (b0.toNat % 8) w ⟨by unfold runeH; rw [if_neg (by omega), if_neg (by omega), if_pos (by omega)], by omega, E⟩))
        ·refine tW 2 rfl (Ln (e_K (hK38 _ _ _ _ (c_false rfl (cK (eI (by simp) ?_))))))
         refine WE.sub (l' := [(0, _), (4, _), (5, _), (6, _)]) ⟨rfl, rfl, rfl, rfl, trivial⟩ (e_K (J11 0 0 b0.toNat w ⟨by unfold runeH; rw [if_neg (by omega), if_neg (by omega), if_neg (by omega)], by omega, E⟩))
       ·refine tW 5 rfl (Ln (e_K (hK38 _ _ _ _ (c_false rfl (cK (eI (by simp) ?_))))))
        refine WE.sub (l' := [(0, _), (4, _), (5, _), (6, _)]) ⟨rfl, rfl, rfl, rfl, trivial⟩ (e_K (J11 0 0 b0.toNat w ⟨by unfold runeH; rw [if_neg (by omega), if_neg (by omega), if_neg (by omega)], by omega, E⟩))
     ·refine tW 5 rfl (Ln (e_K (hK35 _ _ _ _ (c_false rfl (Cq fun K41 hK41 => Cr (Zm rfl (Sv (o_geq rfl rfl) ?_)))))))
      refine bD (fun hs16_0 : (b0.toNat : Int) ≥ 240 => ?_) (fun hs16_0 => ?_)
      ·refine tW 3 rfl ?_
       refine bD (fun hs16_1 : (b0.toNat : Int) < 248 => ?_) (fun hs16_1 => ?_)
       ·refine tW 2 rfl (Ln (e_K (hK41 _ _ _ _ (c_true rfl (Cq fun K42 hK42 => Cr (Za rfl (Ln (e_K (hK42 _ _ _ _ (Cq fun K43 hK43 => Cr (Za rfl (Ln (e_K (hK43 _ _ _ _ ?_))))))))))))))
        refine Cr (Zm rfl (Sv ((o_remN rfl rfl (by omega)).to (v' := .int .i64 ((b0.toNat % 8 : Nat) : Int)) (by rw [Int.natCast_emod]; try rfl)) (Za rfl (Ln (eI (by simp) ?_)))))
        refine WE.sub (l' := [(0, _), (4, _), (5, _), (6, _)]) ⟨rfl, rfl, rfl, rfl, trivial⟩ (e_K (J11 4 65536 (b0.toNat % 8) w ⟨by unfold runeH; rw [if_neg (by omega), if_neg (by omega), if_pos (by omega)], by omega, E⟩))
       ·refine tW 2 rfl (Ln (e_K (hK41 _ _ _ _ (c_false rfl (cK (eI (by simp) ?_))))))
        refine WE.sub (l' := [(0, _), (4, _), (5, _), (6, _)]) ⟨rfl, rfl, rfl, rfl, trivial⟩ (e_K (J11 0 0 b0.toNat w ⟨by unfold runeH; rw [if_neg (by omega), if_neg (by omega), if_neg (by omega)], by omega, E⟩))
      ·refine tW 5 rfl (Ln (e_K (hK41 _ _ _ _ (c_false rfl (cK (eI (by simp) ?_))))))
       refine WE.sub (l' := [(0, _), (4, _), (5, _), (6, _)]) ⟨rfl, rfl, rfl, rfl, trivial⟩ (e_K (J11 0 0 b0.toNat w ⟨by unfold runeH; rw [if_neg (by omega), if_neg (by omega), if_neg (by omega)], by omega, E⟩))
   ·refine tW 5 rfl (Ln (e_K (hK32 _ _ _ _ (c_false rfl (Cq fun K44 hK44 => Cr (Zm rfl (Sv (o_geq rfl rfl) ?_)))))))
    refine bD (fun hs12_0 : (b0.toNat : Int) ≥ 224 => ?_) (fun hs12_0 => ?_)
    ·refine tW 3 rfl ?_
     refine bD (fun hs12_1 : (b0.toNat : Int) < 240 => ?_) (fun hs12_1 => ?_)
     ·refine tW 2 rfl (Ln (e_K (hK44 _ _ _ _ (c_true rfl (Cq fun K45 hK45 => Cr (Za rfl (Ln (e_K (hK45 _ _ _ _ (Cq fun K46 hK46 => Cr (Za rfl (Ln (e_K (hK46 _ _ _ _ ?_))))))))))))))
      refine Cr (Zm rfl (Sv ((o_remN rfl rfl (by omega)).to (v' := .int .i64 ((b0.toNat % 16 : Nat) : Int)) (by rw [Int.natCast_emod]; try rfl)) (Za rfl (Ln (eI (by simp) ?_)))))
      refine WE.sub (l' := [(0, _), (4, _), (5, _), (6, _)]) ⟨rfl, rfl, rfl, rfl, trivial⟩ (e_K (J11 3 2048 (b0.toNat % 16) w ⟨by unfold runeH; rw [if_neg (by omega), if_pos (by omega)], by omega, E⟩))
     ·refine tW 2 rfl (Ln (e_K (hK44 _ _ _ _ (c_false rfl (Cq fun K47 hK47 => Cr (Zm rfl (Sv (o_geq rfl rfl) ?_)))))))
      refine bD (fun hs16_0 : (b0.toNat : Int) ≥ 240 => ?_) (fun hs16_0 => ?_)
      ·refine tW 3 rfl ?_
       refine bD (fun hs16_1 : (b0.toNat : Int) < 248 => ?_) (fun hs16_1 => ?_)
       ·refine tW 2 rfl (Ln (e_K (hK47 _ _ _ _ (c_true rfl (Cq fun K48 hK48 => Cr (Za rfl (Ln (e_K (hK48 _ _ _ _ (Cq fun K49 hK49 => Cr (Za rfl (Ln (e_K (hK49 _ _ _ _ ?_))))))))))))))
        refine Cr (Zm rfl (Sv ((o_remN rfl rfl (by omega)).to (v' := .int .i64 ((b0.toNat % 8 : Nat) : Int)) (by rw [Int.natCast_emod]; try rfl)) (Za rfl (Ln (eI (by simp) ?_)))))
        refine WE.sub (l' := [(0, _), (4, _), (5, _), (6, _)]) ⟨rfl, rfl, rfl, rfl, trivial⟩ (e_K (J11 4 65536 (b0.toNat % 8) w ⟨by unfold runeH; rw [if_neg (by omega), if_neg (by omega), if_pos (by omega)], by omega, E⟩))
       ·refine tW 2 rfl (Ln (e_K (hK47 _ _ _ _ (c_false rfl (cK (eI (by simp) ?_))))))
        refine WE.sub (l' := [(0, _), (4, _), (5, _), (6, _)]) ⟨rfl, rfl, rfl, rfl, trivial⟩ (e_K (J11 0 0 b0.toNat w ⟨by unfold runeH; rw [if_neg (by omega), if_neg (by omega), if_neg (by omega)], by omega, E⟩))
      ·refine tW 5 rfl (Ln (e_K (hK47 _ _ _ _ (c_false rfl (cK (eI (by simp) ?_))))))
       refine WE.sub (l' := [(0, _), (4, _), (5, _), (6, _)]) ⟨rfl, rfl, rfl, rfl, trivial⟩ (e_K (J11 0 0 b0.toNat w ⟨by unfold runeH; rw [if_neg (by omega), if_neg (by omega), if_neg (by omega)], by omega, E⟩))
    ·refine tW 5 rfl (Ln (e_K (hK44 _ _ _ _ (c_false rfl (Cq fun K50 hK50 => Cr (Zm rfl (Sv (o_geq rfl rfl) ?_)))))))
     refine bD (fun hs16_0 : (b0.toNat : Int) ≥ 240 => ?_) (fun hs16_0 => ?_)
     ·refine tW 3 rfl ?_
      refine bD (fun hs16_1 : (b0.toNat : Int) < 248 => ?_) (fun hs16_1 => ?_)
      ·refine tW 2 rfl (Ln (e_K (hK50 _ _ _ _ (c_true rfl (Cq fun K51 hK51 => Cr (Za rfl (Ln (e_K (hK51 _ _ _ _ (Cq fun K52 hK52 => Cr (Za rfl (Ln (e_K (hK52 _ _ _ _ ?_))))))))))))))
       refine Cr (Zm rfl (Sv ((o_remN rfl rfl (by omega)).to (v' := .int .i64 ((b0.toNat % 8 : Nat) : Int)) (by rw [Int.natCast_emod]; try rfl)) (Za rfl (Ln (eI (by simp) ?_)))))
       refine WE.sub (l' := [(0, _), (4, _), (5, _), (6, _)]) ⟨rfl, rfl, rfl, rfl, trivial⟩ (e_K (J11 4 65536 (b0.toNat % 8) w ⟨by unfold runeH; rw [if_neg (by omega), if_neg (by omega), if_pos (by omega)], by omega, E⟩))
      ·refine tW 2 rfl (Ln (e_K (hK50 _ _ _ _ (c_false rfl (cK (eI (by simp) ?_))))))
       refine WE.sub (l' := [(0, _), (4, _), (5, _), (6, _)]) ⟨rfl, rfl, rfl, rfl, trivial⟩ (e_K (J11 0 0 b0.toNat w ⟨by unfold runeH; rw [if_neg (by omega), if_neg (by omega), if_neg (by omega)], by omega, E⟩))
     ·refine tW 5 rfl (Ln (e_K (hK50 _ _ _ _ (c_false rfl (cK (eI (by simp) ?_))))))
      refine WE.sub (l' := [(0, _), (4, _), (5, _), (6, _)]) ⟨rfl, rfl, rfl, rfl, trivial⟩ (e_K (J11 0 0 b0.toNat w ⟨by unfold runeH; rw [if_neg (by omega), if_neg (by omega), if_neg (by omega)], by omega, E⟩))
end Go.Proofs.YtknndpjacklkeaaGreatDoor.V

set_option linter.unusedVariables false
set_option linter.unusedSimpArgs false
set_option maxRecDepth 10000
namespace Go.Proofs.YtknndpjacklkeaaGreatDoor.V
open Go Go.Proofs
theorem ent147 : Ent Tryz.prog 147 := Ent.of Tryz.func147 (by kernel_rfl) (by kernel_rfl)
theorem c_valid8 (w : World) (s : Str) : Calls Tryz.prog 129 [S s].toArray w (Ret fun u w' => u = .bool (validR s) ∧ Mod [] w w') := by
 refine enter Tryz.func129 rfl rfl rfl (l := [(0, _)]) ⟨rfl, trivial⟩ ?_
 have E := Mod.refl [] w
 refine Cq fun K1 hK1 => Cr (Za rfl (Ln (e_K (hK1 _ _ _ _ (Cq fun K2 hK2 => cB (c_loop (σ := Str) (fun s1 => [(0, S s1)]) (fun s1 w1 => validR s = validR s1 ∧ Mod [] w w1) (fun s1 => s1.length) (s) ⟨rfl, trivial⟩ (⟨rfl, E⟩) ?_))))))
 rintro s1 w1 ⟨hv, E⟩
 refine Cq fun K3 hK3 => Cq fun K4 hK4 => Cr (Zm rfl (Sv (o_sne rfl rfl) (Ln (e_K (hK4 _ _ _ _ ?_)))))
 refine c_if rfl (fun h6 => ?_) (fun h6 => ?_)
 ·have hne : s1 ≠ [] := h6
  refine cK (e_K (hK3 _ _ _ _ (cB (Cq fun K5 hK5 => Cr (Zm rfl (sc (oC ent147 rfl) (c_rune _ _) rfl fun v_ w2 h_ => ?_))))))
  obtain ⟨rfl, E_⟩ := h_
  replace E := E.then E_
  refine tW 5 rfl (Ln (e_K (hK5 _ _ _ _ (Cq fun K6 hK6 => Cq fun K7 hK7 => Cr (tW 2 rfl (Ln (e_K (hK7 _ _ _ _ ?_))))))))
  refine c_if rfl (fun h13 => ?_) (fun h13 => ?_)
  ·have hR : validR s = false := by rw [hv, validR_no hne (by omega)]
   exact Cq fun K8 hK8 => Cr (Za rfl (Ln (e_K (hK8 _ _ _ _ (cR (eT (by simp) (eI (by simp) (eT (by simp) (eI (by simp) (eT (by simp) (ret1 rfl rfl ⟨by rw [hR], E⟩)))))))))))
  ·have hn0 : (runeR s1).2 ≠ 0 := by omega
   refine cK (e_K (hK6 _ _ _ _ (Cr (tW 2 rfl ?_))))
   have hle := runeR_le s1
   exact Sv (o_ssfrom Tryz.underlying9 rfl rfl hle) (Za rfl (Ln (eI (by simp) (eR (σ := Str) (s := s1) (s1.drop (runeR s1).2) ⟨rfl, trivial⟩ ⟨hv.trans (validR_go hne hn0), E⟩ ((by have := runeR_le s1; have h0 : s1.length ≠ 0 := fun e => hne (List.eq_nil_of_length_eq_zero e); simp only [List.length_drop]; omega))))))
 ·have hnil : s1 = [] := Classical.byContradiction h6
  have hR : validR s = true := by rw [hv, hnil, validR_nil]
  exact c_exit (eT (by simp) (eT (by simp) (e_hit (e_K (hK2 _ _ _ _ (Cq fun K9 hK9 => Cr (Za rfl (Ln (e_K (hK9 _ _ _ _ (cR (ret1 rfl rfl ⟨by rw [hR], E⟩))))))))))))
end Go.Proofs.YtknndpjacklkeaaGreatDoor.V

set_option linter.unusedVariables false
set_option linter.unusedSimpArgs false
namespace Go.Proofs.YtknndpjacklkeaaGreatDoor.V
open Go
abbrev b8c (c : UInt8) : List Value := [B8 c]
theorem cells_b8 (b : List UInt8) : (b.map b8c).flatten = b.map B8 := by
 induction b with
 | nil => rfl
 | cons c b ih => simp [ih]
theorem u8_eq {c d : UInt8} (h : (c.toNat : Int) = d.toNat) : c = d := UInt8.toNat_inj.1 (by omega)
theorem escQ1 {c : UInt8} (h : (c.toNat : Int) = 34 ∨ (c.toNat : Int) = 92) : escQ c = [92, c] := by
 unfold escQ
 rw [if_pos (h.imp (fun h => u8_eq h) (fun h => u8_eq h))]
theorem escQ2 {c : UInt8} (h : (c.toNat : Int) = 8) : escQ c = [92, 98] := by obtain rfl : c = 8 := u8_eq h; rfl
theorem escQ3 {c : UInt8} (h : (c.toNat : Int) = 9) : escQ c = [92, 116] := by obtain rfl : c = 9 := u8_eq h; rfl
theorem escQ4 {c : UInt8} (h : (c.toNat : Int) = 10) : escQ c = [92, 110] := by obtain rfl : c = 10 := u8_eq h; rfl
theorem escQ5 {c : UInt8} (h : (c.toNat : Int) = 12) : escQ c = [92, 102] := by obtain rfl : c = 12 := u8_eq h; rfl
theorem escQ6 {c : UInt8} (h : (c.toNat : Int) = 13) : escQ c = [92, 114] := by obtain rfl : c = 13 := u8_eq h; rfl
theorem u8_ne {c d : UInt8} (h : ¬ (c.toNat : Int) = d.toNat) : c ≠ d := fun e => h (by rw [e])
theorem escQ7 {c : UInt8} (h1 : ¬ (c.toNat : Int) = 34) (h2 : ¬ (c.toNat : Int) = 92) (h3 : ¬ (c.toNat : Int) = 8) (h4 : ¬ (c.toNat : Int) = 9) (h5 : ¬ (c.toNat : Int) = 10) (h6 : ¬ (c.toNat : Int) = 12) (h7 : ¬ (c.toNat : Int) = 13) :
  escQ c = if c.toNat < 32 then [92, 117, 48, 48, hexD.getD (c.toNat / 16) 0, hexD.getD (c.toNat % 16) 0] else [c] := by
 unfold escQ
 rw [if_neg (fun h => h.elim (u8_ne (d := 34) h1) (u8_ne (d := 92) h2)), if_neg (u8_ne (d := 8) h3), if_neg (u8_ne (d := 9) h4), if_neg (u8_ne (d := 10) h5), if_neg (u8_ne (d := 12) h6), if_neg (u8_ne (d := 13) h7)]
theorem hex_at {i : Nat} (h : i < 16) : hexD[i]? = some (hexD.getD i 0) := by
 have : ∀ j : Fin 16, hexD[j.val]? = some (hexD.getD j.val 0) := by decide
 exact this ⟨i, h⟩
def bts : Except Int Str → Str
 | .ok b => b
 | .error _ => []
def ern : Except Int Str → Int
 | .ok _ => 0
 | .error e => if e = 0 then 1 else e
theorem ern_ok {r : Except Int Str} (h : ern r = 0) : ∃ b, r = .ok b := by
 cases r with
 | ok b => exact ⟨b, rfl⟩
 | error e =>
  exfalso
  by_cases h0 : e = 0 <;> simp [ern, h0] at h
theorem ern_no {r : Except Int Str} (h : ¬ ern r = 0) : ∃ e, r = .error e := by
 cases r with
 | ok b => exact absurd rfl h
 | error e => exact ⟨e, rfl⟩
theorem bind_no {r : Except Int Str} (h : ¬ ern r = 0) (f : Str → Except Int Str) : r.bind f = r := by
 obtain ⟨e, rfl⟩ := ern_no h
 rfl
theorem lng_bts (b : Str) : (lng b = .ok b ∧ b.length ≤ 65536) ∨ (lng b = .error 3 ∧ 65536 < b.length) := by
 unfold lng
 by_cases h : 65536 < b.length
 ·exact .inr ⟨if_pos h, h⟩
 ·exact .inl ⟨if_neg h, by omega⟩
theorem lng_len (b : Str) : (bts (lng b)).length ≤ 65536 := by
 rcases lng_bts b with ⟨h, h2⟩ | ⟨h, _⟩
 ·rw [h]; exact h2
 ·rw [h]; simp [bts]
end Go.Proofs.YtknndpjacklkeaaGreatDoor.V

set_option linter.unusedVariables false
set_option linter.unusedSimpArgs false
set_option maxRecDepth 10000
namespace Go.Proofs.YtknndpjacklkeaaGreatDoor.V
open Go Go.Proofs
theorem ent129 : Ent Tryz.prog 129 := Ent.of Tryz.func129 (by kernel_rfl) (by kernel_rfl)
theorem sl74 : slB Tryz.prog 74 5 1 1 = true := by kernel_rfl
theorem zv5 : zvB Tryz.prog 5 ([.int .u8 0]) := by unfold zvB; kernel_rfl
theorem c_put8 (w : World) (s : Str) (hs : s.length ≤ 65536) : Calls Tryz.prog 198 [S s].toArray w (Ret fun u w' => u = .tuple #[S (if validR s then putQ s else []), .bool (validR s)] ∧ Mod [] w w') := by
 refine enter Tryz.func198 rfl rfl rfl (l := [(0, _)]) ⟨rfl, trivial⟩ ?_
 have E := Mod.refl [] w
 refine Cq fun K1 hK1 => Cr (tW 2 rfl (Ln (e_K (hK1 _ _ _ _ (Cq fun K2 hK2 => Cq fun K3 hK3 => Cr (Zm rfl (sc (oC ent129 rfl) (c_valid8 _ _) rfl fun v_ w1 h_ => ?_)))))))
 obtain ⟨rfl, E_⟩ := h_
 replace E := E.then E_
 refine Sv (o_not rfl) (Ln (e_K (hK3 _ _ _ _ ?_)))
 refine c_cond rfl (fun h10 => ?_) (fun h10 => ?_)
 ·have hval : validR s = false := by simpa using h10
  exact Cq fun K4 hK4 => Cr (tW 2 rfl (Ln (e_K (hK4 _ _ _ _ (cR (eT (by simp) (ret2 rfl rfl rfl ⟨by rw [hval]; rfl, E⟩)))))))
 ·have hval : validR s = true := by simpa using h10
  refine cK (e_K (hK2 _ _ _ _ (Cq fun K5 hK5 => Cr (Za rfl (Ln (e_K (hK5 _ _ _ _ (Cq fun K6 hK6 => Cr (s_bslice (cs := [_]) sl74 zv5 rfl rfl rfl (by decide) rfl fun g1 w2 N1 => ?_)))))))))
  have Lg1_E := N1.le E
  replace E := E.then N1.mod
  have Bg1 := N1.blk
  refine Za rfl (Ln (e_K (hK6 _ _ _ _ (Cq fun K7 hK7 => Cq fun K8 hK8 => Cr (Za rfl (Ln (e_K (hK8 _ _ _ _ (cB (c_loop (σ := Nat × Value) (fun ⟨k, v⟩ => [(0, S s), (4, S hexD), (5, v), (6, .int .i64 (k : Int))]) (fun ⟨k, v⟩ w1 => k ≤ s.length ∧ Own w1 5 1 v ((34 :: escs (s.take k))).length ((((34 :: escs (s.take k))).map b8c).flatten) ∧ (∀ x ∈ ob v, w.heap.size ≤ x) ∧ Mod [] w w1) (fun ⟨k, v⟩ => s.length - k) (⟨0, .slice (some ⟨g1, 0, none⟩) 1 1⟩) ⟨rfl, rfl, rfl, rfl, trivial⟩ (⟨by omega, (Own.all (c := 1) Bg1 rfl (by omega)).same rfl rfl, by simp only [ob, List.mem_singleton]; intro x hx; subst hx; exact Lg1_E, E⟩) ?_))))))))))
  rintro ⟨k, v⟩ w3 ⟨hk, Oa, L0, E⟩
  refine Cq fun K9 hK9 => Cq fun K10 hK10 => Cr (tW 2 rfl (Sv (o_slen Tryz.underlying9 rfl) (Sv (o_lss rfl rfl) (Ln (e_K (hK10 _ _ _ _ ?_))))))
  refine c_if rfl (fun h15 => ?_) (fun h15 => ?_)
  ·refine cK (e_K (hK9 _ _ _ _ (Cq fun K11 hK11 => cB (Cq fun K12 hK12 => Cr (tW 2 rfl (s_sidx (m := k) Tryz.underlying9 rfl rfl (by omega) (by simp; omega) rfl fun c hc => ?_))))))
   rw [Int.toNat_natCast] at hc
   have hcl := c.toNat_lt
   have hql := escs_len (s.take k)
   have htl : (s.take k).length = k := by rw [List.length_take]; omega
   have hq2 : (34 :: escs (s.take k)).length = (escs (s.take k)).length + 1 := rfl
   refine Za rfl (Ln (e_K (hK12 _ _ _ _ (cB (Cq fun K13 hK13 => Cr (tW 2 rfl ?_))))))
   refine bD (fun hs10_0 : (c.toNat : Int) = 34 => ?_) (fun hs10_0 => ?_)
   ·refine tW 5 rfl (Ln (e_K (hK13 _ _ _ _ (c_true rfl (Cr (tW 2 rfl (s_bslice (cs := [_, _]) sl74 zv5 rfl rfl rfl (by decide) rfl fun g2 w4 N2 => ?_)))))))
    have Lg2_E := N2.le E
    have Da0_g2 := N2.own_ne Oa
    replace E := E.then N2.mod
    replace Oa := Oa.mod0 N2.mod
    have Bg2 := N2.blk
    have hesc := escQ1 (c := c) (by omega)
    refine s_append sl74 rfl rfl Oa (Src.own Tryz.underlying74 (Own.all (cs := [_, _]) Bg2 rfl (by omega)) (by simp [Value.oneCell'])) (by decide) (by omega) (by omega) rfl fun v1 w5 A1 => ?_
    have Dv1_g2 := A1.ne Da0_g2 Bg2
    have Lv1_E := A1.ge L0 E
    replace Bg2 := Bg2.mod A1.mod (fun hx => Da0_g2 _ hx rfl)
    replace E := E.trans' A1.mod (fun x hx => .inr (L0 x hx))
    replace Oa := A1.own
    exact Za rfl (Ln (eI (by simp) (eI (by simp) (e_K (hK11 _ _ _ _ (Cr (Zm rfl (Sv (o_addN rfl rfl (by omega)) (Za rfl (Ln (eR (σ := Nat × Value) (s := ⟨k, v⟩) (⟨k + 1, v1⟩) ⟨rfl, rfl, rfl, rfl, trivial⟩ ⟨by omega, Oa.same (by rw [escs_succ hc, hesc]; simp) (by rw [escs_succ hc, hesc]; simp [B8]), Lv1_E, E⟩ (by dsimp only; omega))))))))))))
   ·refine tW 3 rfl ?_
    refine bD (fun hs10_1 : (c.toNat : Int) = 92 => ?_) (fun hs10_1 => ?_)
    ·refine tW 2 rfl (Ln (e_K (hK13 _ _ _ _ (c_true rfl (Cr (tW 2 rfl (s_bslice (cs := [_, _]) sl74 zv5 rfl rfl rfl (by decide) rfl fun g3 w6 N3 => ?_)))))))
     have Lg3_E := N3.le E
     have Da0_g3 := N3.own_ne Oa
     replace E := E.then N3.mod
     replace Oa := Oa.mod0 N3.mod
     have Bg3 := N3.blk
     have hesc := escQ1 (c := c) (by omega)
     refine s_append sl74 rfl rfl Oa (Src.own Tryz.underlying74 (Own.all (cs := [_, _]) Bg3 rfl (by omega)) (by simp [Value.oneCell'])) (by decide) (by omega) (by omega) rfl fun v2 w7 A2 => ?_
     have Dv2_g3 := A2.ne Da0_g3 Bg3
     have Lv2_E := A2.ge L0 E
     replace Bg3 := Bg3.mod A2.mod (fun hx => Da0_g3 _ hx rfl)
     replace E := E.trans' A2.mod (fun x hx => .inr (L0 x hx))
     replace Oa := A2.own
     exact Za rfl (Ln (eI (by simp) (eI (by simp) (e_K (hK11 _ _ _ _ (Cr (Zm rfl (Sv (o_addN rfl rfl (by omega)) (Za rfl (Ln (eR (σ := Nat × Value) (s := ⟨k, v⟩) (⟨k + 1, v2⟩) ⟨rfl, rfl, rfl, rfl, trivial⟩ ⟨by omega, Oa.same (by rw [escs_succ hc, hesc]; simp) (by rw [escs_succ hc, hesc]; simp [B8]), Lv2_E, E⟩ (by dsimp only; omega))))))))))))
    ·refine tW 2 rfl (Ln (e_K (hK13 _ _ _ _ (c_false rfl (Cq fun K14 hK14 => Cr (tW 3 rfl (Ln (e_K (hK14 _ _ _ _ ?_)))))))))
     refine c_if rfl (fun h36 => ?_) (fun h36 => ?_)
     ·refine Cr (Zm rfl (s_bslice (cs := [_, _]) sl74 zv5 rfl rfl rfl (by decide) rfl fun g4 w8 N4 => ?_))
      have Lg4_E := N4.le E
      have Da0_g4 := N4.own_ne Oa
      replace E := E.then N4.mod
      replace Oa := Oa.mod0 N4.mod
      have Bg4 := N4.blk
      have hesc := escQ2 h36
      refine s_append sl74 rfl rfl Oa (Src.own Tryz.underlying74 (Own.all (cs := [_, _]) Bg4 rfl (by omega)) (by simp [Value.oneCell'])) (by decide) (by omega) (by omega) rfl fun v3 w9 A3 => ?_
      have Dv3_g4 := A3.ne Da0_g4 Bg4
      have Lv3_E := A3.ge L0 E
      replace Bg4 := Bg4.mod A3.mod (fun hx => Da0_g4 _ hx rfl)
      replace E := E.trans' A3.mod (fun x hx => .inr (L0 x hx))
      replace Oa := A3.own
      exact Za rfl (Ln (eI (by simp) (eI (by simp) (e_K (hK11 _ _ _ _ (Cr (Zm rfl (Sv (o_addN rfl rfl (by omega)) (Za rfl (Ln (eR (σ := Nat × Value) (s := ⟨k, v⟩) (⟨k + 1, v3⟩) ⟨rfl, rfl, rfl, rfl, trivial⟩ ⟨by omega, Oa.same (by rw [escs_succ hc, hesc]; simp) (by rw [escs_succ hc, hesc]; simp [B8]), Lv3_E, E⟩ (by dsimp only; omega))))))))))))
     ·refine Cq fun K15 hK15 => Cr (tW 3 rfl (Ln (e_K (hK15 _ _ _ _ ?_))))
      refine c_if rfl (fun h42 => ?_) (fun h42 => ?_)
      ·refine Cr (Zm rfl (s_bslice (cs := [_, _]) sl74 zv5 rfl rfl rfl (by decide) rfl fun g5 w10 N5 => ?_))
       have Lg5_E := N5.le E
       have Da0_g5 := N5.own_ne Oa
       replace E := E.then N5.mod
       replace Oa := Oa.mod0 N5.mod
       have Bg5 := N5.blk
       have hesc := escQ3 h42
       refine s_append sl74 rfl rfl Oa (Src.own Tryz.underlying74 (Own.all (cs := [_, _]) Bg5 rfl (by omega)) (by simp [Value.oneCell'])) (by decide) (by omega) (by omega) rfl fun v4 w11 A4 => ?_
       have Dv4_g5 := A4.ne Da0_g5 Bg5
       have Lv4_E := A4.ge L0 E
       replace Bg5 := Bg5.mod A4.mod (fun hx => Da0_g5 _ hx rfl)
       replace E := E.trans' A4.mod (fun x hx => .inr (L0 x hx))
       replace Oa := A4.own
       exact Za rfl (Ln (eI (by simp) (eI (by simp) (e_K (hK11 _ _ _ _ (Cr (Zm rfl (Sv (o_addN rfl rfl (by omega)) (Za rfl (Ln (eR (σ := Nat × Value) (s := ⟨k, v⟩) (⟨k + 1, v4⟩) ⟨rfl, rfl, rfl, rfl, trivial⟩ ⟨by omega, Oa.same (by rw [escs_succ hc, hesc]; simp) (by rw [escs_succ hc, hesc]; simp [B8]), Lv4_E, E⟩ (by dsimp only; omega))))))))))))
      ·refine Cq fun K16 hK16 => Cr (tW 3 rfl (Ln (e_K (hK16 _ _ _ _ ?_))))
       refine c_if rfl (fun h48 => ?_) (fun h48 => ?_)
       ·refine Cr (Zm rfl (s_bslice (cs := [_, _]) sl74 zv5 rfl rfl rfl (by decide) rfl fun g6 w12 N6 => ?_))
        have Lg6_E := N6.le E
        have Da0_g6 := N6.own_ne Oa
        replace E := E.then N6.mod
        replace Oa := Oa.mod0 N6.mod
        have Bg6 := N6.blk
        have hesc := escQ4 h48
        refine s_append sl74 rfl rfl Oa (Src.own Tryz.underlying74 (Own.all (cs := [_, _]) Bg6 rfl (by omega)) (by simp [Value.oneCell'])) (by decide) (by omega) (by omega) rfl fun v5 w13 A5 => ?_
        have Dv5_g6 := A5.ne Da0_g6 Bg6
        have Lv5_E := A5.ge L0 E
        replace Bg6 := Bg6.mod A5.mod (fun hx => Da0_g6 _ hx rfl)
        replace E := E.trans' A5.mod (fun x hx => .inr (L0 x hx))
        replace Oa := A5.own
        exact Za rfl (Ln (eI (by simp) (eI (by simp) (e_K (hK11 _ _ _ _ (Cr (Zm rfl (Sv (o_addN rfl rfl (by omega)) (Za rfl (Ln (eR (σ := Nat × Value) (s := ⟨k, v⟩) (⟨k + 1, v5⟩) ⟨rfl, rfl, rfl, rfl, trivial⟩ ⟨by omega, Oa.same (by rw [escs_succ hc, hesc]; simp) (by rw [escs_succ hc, hesc]; simp [B8]), Lv5_E, E⟩ (by dsimp only; omega))))))))))))
       ·refine Cq fun K17 hK17 => Cr (tW 3 rfl (Ln (e_K (hK17 _ _ _ _ ?_))))
        refine c_if rfl (fun h54 => ?_) (fun h54 => ?_)
        ·refine Cr (Zm rfl (s_bslice (cs := [_, _]) sl74 zv5 rfl rfl rfl (by decide) rfl fun g7 w14 N7 => ?_))
         have Lg7_E := N7.le E
         have Da0_g7 := N7.own_ne Oa
         replace E := E.then N7.mod
         replace Oa := Oa.mod0 N7.mod
         have Bg7 := N7.blk
         have hesc := escQ5 h54
         refine s_append sl74 rfl rfl Oa (Src.own Tryz.underlying74 (Own.all (cs := [_, _]) Bg7 rfl (by omega)) (by simp [Value.oneCell'])) (by decide) (by omega) (by omega) rfl fun v6 w15 A6 => ?_
         have Dv6_g7 := A6.ne Da0_g7 Bg7
         have Lv6_E := A6.ge L0 E
         replace Bg7 := Bg7.mod A6.mod (fun hx => Da0_g7 _ hx rfl)
         replace E := E.trans' A6.mod (fun x hx => .inr (L0 x hx))
         replace Oa := A6.own
         exact Za rfl (Ln (eI (by simp) (eI (by simp) (e_K (hK11 _ _ _ _ (Cr (Zm rfl (Sv (o_addN rfl rfl (by omega)) (Za rfl (Ln (eR (σ := Nat × Value) (s := ⟨k, v⟩) (⟨k + 1, v6⟩) ⟨rfl, rfl, rfl, rfl, trivial⟩ ⟨by omega, Oa.same (by rw [escs_succ hc, hesc]; simp) (by rw [escs_succ hc, hesc]; simp [B8]), Lv6_E, E⟩ (by dsimp only; omega))))))))))))
        ·refine Cq fun K18 hK18 => Cr (tW 3 rfl (Ln (e_K (hK18 _ _ _ _ ?_))))
         refine c_if rfl (fun h60 => ?_) (fun h60 => ?_)
         ·refine Cr (Zm rfl (s_bslice (cs := [_, _]) sl74 zv5 rfl rfl rfl (by decide) rfl fun g8 w16 N8 => ?_))
          have Lg8_E := N8.le E
          have Da0_g8 := N8.own_ne Oa
          replace E := E.then N8.mod
          replace Oa := Oa.mod0 N8.mod
          have Bg8 := N8.blk
          have hesc := escQ6 h60
          refine s_append sl74 rfl rfl Oa (Src.own Tryz.underlying74 (Own.all (cs := [_, _]) Bg8 rfl (by omega)) (by simp [Value.oneCell'])) (by decide) (by omega) (by omega) rfl fun v7 w17 A7 => ?_
          have Dv7_g8 := A7.ne Da0_g8 Bg8
          have Lv7_E := A7.ge L0 E
          replace Bg8 := Bg8.mod A7.mod (fun hx => Da0_g8 _ hx rfl)
          replace E := E.trans' A7.mod (fun x hx => .inr (L0 x hx))
          replace Oa := A7.own
          exact Za rfl (Ln (eI (by simp) (eI (by simp) (e_K (hK11 _ _ _ _ (Cr (Zm rfl (Sv (o_addN rfl rfl (by omega)) (Za rfl (Ln (eR (σ := Nat × Value) (s := ⟨k, v⟩) (⟨k + 1, v7⟩) ⟨rfl, rfl, rfl, rfl, trivial⟩ ⟨by omega, Oa.same (by rw [escs_succ hc, hesc]; simp) (by rw [escs_succ hc, hesc]; simp [B8]), Lv7_E, E⟩ (by dsimp only; omega))))))))))))
         ·refine Cq fun K19 hK19 => Cr (tW 3 rfl (Ln (e_K (hK19 _ _ _ _ ?_))))
          refine c_if rfl (fun h66 => ?_) (fun h66 => ?_)
          ·refine c_drawp [0] [1, 2, 3, 4, 5, 6, 7, 8] 9 [10, 11] wide (by kernel_rfl) (fun _ _ _ h => h.2) (pw (fun _ => (oM rfl)) rfl rfl (pw_nil (tU 2 rfl rfl (tv (fun w_ E_ => ((o_quo rfl rfl (by omega)).to (v' := .int .u8 ((c.toNat / 16 : Nat) : Int)) (by rw [Int.tdiv_eq_ediv_of_nonneg (by omega), wrapu8_in _ (by omega), Int.natCast_ediv]; try rfl))) rfl rfl (tv (fun w_ E_ => (o_sidx Tryz.underlying9 rfl rfl (by omega) (by rw [Int.toNat_natCast]; exact hex_at (by omega)))) rfl rfl (tU 2 rfl rfl (tv (fun w_ E_ => ((o_remN rfl rfl (by omega)).to (v' := .int .u8 ((c.toNat % 16 : Nat) : Int)) (by rw [Int.natCast_emod]; try rfl))) rfl rfl (tv (fun w_ E_ => (o_sidx Tryz.underlying9 rfl rfl (by omega) (by rw [Int.toNat_natCast]; exact hex_at (by omega)))) rfl rfl (tw_tail rfl fun w18 E_ => ?_)))))))))
           replace E := E.then E_
           replace Oa := Oa.mod0 E_
           refine s_bslice (cs := [_, _, _, _, _, _]) sl74 zv5 rfl rfl rfl (by decide) rfl fun g9 w19 N9 => ?_
           have Lg9_E := N9.le E
           have Da0_g9 := N9.own_ne Oa
           replace E := E.then N9.mod
           replace Oa := Oa.mod0 N9.mod
           have Bg9 := N9.blk
           have hesc := (escQ7 (c := c) (by omega) (by omega) h36 h42 h48 h54 h60).trans (if_pos (by omega))
           refine s_append sl74 rfl rfl Oa (Src.own Tryz.underlying74 (Own.all (cs := [_, _, _, _, _, _]) Bg9 rfl (by omega)) (by simp [Value.oneCell'])) (by decide) (by omega) (by omega) rfl fun v8 w20 A8 => ?_
           have Dv8_g9 := A8.ne Da0_g9 Bg9
           have Lv8_E := A8.ge L0 E
           replace Bg9 := Bg9.mod A8.mod (fun hx => Da0_g9 _ hx rfl)
           replace E := E.trans' A8.mod (fun x hx => .inr (L0 x hx))
           replace Oa := A8.own
           exact Za rfl (Ln (eI (by simp) (eI (by simp) (e_K (hK11 _ _ _ _ (Cr (Zm rfl (Sv (o_addN rfl rfl (by omega)) (Za rfl (Ln (eR (σ := Nat × Value) (s := ⟨k, v⟩) (⟨k + 1, v8⟩) ⟨rfl, rfl, rfl, rfl, trivial⟩ ⟨by omega, Oa.same (by rw [escs_succ hc, hesc]; simp) (by rw [escs_succ hc, hesc]; simp [B8]), Lv8_E, E⟩ (by dsimp only; omega))))))))))))
          ·refine Cr (tW 2 rfl (s_bslice (cs := [_]) sl74 zv5 rfl rfl rfl (by decide) rfl fun g10 w21 N10 => ?_))
           have Lg10_E := N10.le E
           have Da0_g10 := N10.own_ne Oa
           replace E := E.then N10.mod
           replace Oa := Oa.mod0 N10.mod
           have Bg10 := N10.blk
           have hesc := (escQ7 (c := c) (by omega) (by omega) h36 h42 h48 h54 h60).trans (if_neg (by omega))
           refine s_append sl74 rfl rfl Oa (Src.own Tryz.underlying74 (Own.all (cs := [_]) Bg10 rfl (by omega)) (by simp [Value.oneCell'])) (by decide) (by omega) (by omega) rfl fun v9 w22 A9 => ?_
           have Dv9_g10 := A9.ne Da0_g10 Bg10
           have Lv9_E := A9.ge L0 E
           replace Bg10 := Bg10.mod A9.mod (fun hx => Da0_g10 _ hx rfl)
           replace E := E.trans' A9.mod (fun x hx => .inr (L0 x hx))
           replace Oa := A9.own
           exact Za rfl (Ln (eI (by simp) (eI (by simp) (e_K (hK11 _ _ _ _ (Cr (Zm rfl (Sv (o_addN rfl rfl (by omega)) (Za rfl (Ln (eR (σ := Nat × Value) (s := ⟨k, v⟩) (⟨k + 1, v9⟩) ⟨rfl, rfl, rfl, rfl, trivial⟩ ⟨by omega, Oa.same (by rw [escs_succ hc, hesc]; simp) (by rw [escs_succ hc, hesc]; simp [B8]), Lv9_E, E⟩ (by dsimp only; omega))))))))))))
  ·have htk : s.take k = s := List.take_of_length_le (by omega)
   refine c_exit (eT (by simp) (eT (by simp) (e_hit (e_K (hK7 _ _ _ _ (Cq fun K20 hK20 => Cr (Zm rfl (s_bslice (cs := [_]) sl74 zv5 rfl rfl rfl (by decide) rfl fun g11 w23 N11 => ?_))))))))
   have Lg11_E := N11.le E
   have Da0_g11 := N11.own_ne Oa
   replace E := E.then N11.mod
   replace Oa := Oa.mod0 N11.mod
   have Bg11 := N11.blk
   have hql := escs_len s
   have hq2 : (34 :: escs (s.take k)).length = (escs s).length + 1 := by rw [htk]; rfl
   refine s_append sl74 rfl rfl Oa (Src.own Tryz.underlying74 (Own.all (cs := [_]) Bg11 rfl (by omega)) (by simp [Value.oneCell'])) (by decide) (by omega) (by omega) rfl fun v10 w24 A10 => ?_
   have Dv10_g11 := A10.ne Da0_g11 Bg11
   have Lv10_E := A10.ge L0 E
   replace Bg11 := Bg11.mod A10.mod (fun hx => Da0_g11 _ hx rfl)
   replace E := E.trans' A10.mod (fun x hx => .inr (L0 x hx))
   replace Oa := A10.own
   exact Sv (o_b2s_own (u := putQ s) Tryz.underlying74 Tryz.underlying5 Tryz.underlying9 rfl (Oa.same (by rw [htk]; simp [putQ]) (by rw [htk]; simp [putQ, B8, cells_b8]))) (tW 2 rfl (Ln (e_K (hK20 _ _ _ _ (cR (ret2 rfl rfl rfl ⟨by rw [hval]; rfl, E⟩))))))
end Go.Proofs.YtknndpjacklkeaaGreatDoor.V
