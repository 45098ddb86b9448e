/-
  A part of the proof: walks of functions. No condition of its own.
-/
import Derived.Test.YtknndpjacklkeaaGreatDoorM22
import Derived.Test.YtknndpjacklkeaaGreatDoorM4
import Derived.Test.YtknndpjacklkeaaGreatDoorM13
set_option linter.unusedVariables false
set_option linter.unusedSimpArgs false
set_option maxRecDepth 10000
namespace Go.Proofs.YtknndpjacklkeaaGreatDoor.V
open Go Go.Proofs
theorem sc147 : scB Tryz.prog 147 = true := by kernel_rfl
theorem ent174 : Ent Tryz.prog 174 := Ent.of Tryz.func174 (by kernel_rfl) (by kernel_rfl)
theorem c_next (A : List Nat) (w : World) (s : S8) (b : List UInt8) (v0 v1 v2 : Value) (R : Rep A w (woD s.list) v0) (Rb : Rep A w (byD b) v1) (Rk : Rep A w (woD numsK) v2) (hb : 64 ≤ b.length) : Calls Tryz.prog 138 [v0, v1, v2].toArray w (Ret fun u w' => Own w' 147 1 u 8 (comp s b).cells ∧ (∀ x ∈ ob u, w.heap.size ≤ x) ∧ Mod [] w w') := by
 refine enter Tryz.func138 rfl rfl rfl (l := [(0, _), (1, _), (2, _)]) ⟨rfl, rfl, rfl, trivial⟩ ?_
 have E := Mod.refl [] w
 obtain ⟨ads, cs_, rfl, hs1, hs2⟩ := flat_len R
 obtain ⟨adk, ck, rfl, hk1, hk2⟩ := flat_len Rk
 obtain ⟨adb, cb, rfl, hb1, hb2⟩ := flat_len Rb
 obtain ⟨as_, has_, _, _⟩ := flat_at (i := 0) R rfl
 subst has_
 obtain ⟨ak_, hak_, _, _⟩ := flat_at (i := 0) Rk rfl
 subst hak_
 refine Cq fun K1 hK1 => Cr (Za rfl (Ln (e_K (hK1 _ _ _ _ (Cq fun K2 hK2 => Cr (Za rfl (Ln (e_K (hK2 _ _ _ _ (Cq fun K3 hK3 => Cq fun K4 hK4 => Cr (Za rfl ?_)))))))))))
 refine Ln (e_K (hK4 _ _ _ _ (cB (c_loop (σ := Nat × Value) (fun ⟨i, v⟩ => [(0, .slice (some as_) 8 cs_), (1, .slice adb b.length cb), (2, .slice (some ak_) 64 ck), (7, v), (8, .int .i64 (i : Int))]) (fun ⟨i, v⟩ w1 => i ≤ 16 ∧ Own w1 147 1 v i (((sch b i).map wcells).flatten) ∧ (∀ x ∈ ob v, w.heap.size ≤ x) ∧ Mod [] w w1) (fun ⟨i, v⟩ => 16 - i) (⟨0, .slice none 0 0⟩) ⟨rfl, rfl, rfl, rfl, rfl, trivial⟩ (⟨by omega, Own.nil _ 147 1, by simp [ob], E⟩) ?_))))
 rintro ⟨i, v⟩ w1 ⟨hi, Ow, Lw, E⟩
 refine Cq fun K5 hK5 => Cq fun K6 hK6 => Cr (tW 2 rfl (Ln (e_K (hK6 _ _ _ _ ?_))))
 refine c_if rfl (fun h28 => ?_) (fun h28 => ?_)
 ·have hlt16 : i < 16 := by omega
  refine cK (e_K (hK5 _ _ _ _ (Cq fun K7 hK7 => cB (Cq fun K8 hK8 => Cr (Za rfl (Ln (e_K (hK8 _ _ _ _ (Cq fun K9 hK9 => Cq fun K10 hK10 => Cr (Za rfl (Ln ?_)))))))))))
  refine e_K (hK10 _ _ _ _ (cB (c_loop (σ := Nat) (fun j => [(0, .slice (some as_) 8 cs_), (1, .slice adb b.length cb), (2, .slice (some ak_) 64 ck), (7, v), (8, .int .i64 (i : Int)), (9, W4 (wordOf ((b.drop (4 * i)).take j))), (10, .int .i64 (j : Int))]) (fun j w1 => j ≤ 4 ∧ Own w1 147 1 v i (((sch b i).map wcells).flatten) ∧ (∀ x ∈ ob v, w.heap.size ≤ x) ∧ Mod [] w w1) (fun j => 4 - j) (0) ⟨rfl, rfl, rfl, rfl, rfl, rfl, rfl, trivial⟩ (⟨by omega, Ow, Lw, E⟩) ?_)))
  rintro j w2 ⟨hj, Ow, Lw, E⟩
  refine Cq fun K11 hK11 => Cq fun K12 hK12 => Cr (tW 2 rfl (Ln (e_K (hK12 _ _ _ _ ?_))))
  refine c_if rfl (fun h32 => ?_) (fun h32 => ?_)
  ·have hltj : j < 4 := by omega
   obtain ⟨x, hx_x⟩ : ∃ x, b[4 * i + j]? = some x := ⟨_, List.getElem?_eq_getElem (by omega)⟩
   obtain ⟨a_x, ha_x, hcs_x, _⟩ := flat_at (Rb.to0 E) hx_x
   have hx_d : (b.drop (4 * i))[j]? = some x := by rw [List.getElem?_drop]; exact hx_x
   subst ha_x
   refine cK (e_K (hK11 _ _ _ _ (Cq fun K13 hK13 => cB (Cr (Zm rfl (Sv (o_mul4 (b := 256) rfl rfl) (tW 2 rfl (Sv (o_mulN rfl rfl (by omega)) (Zm rfl (Sv (o_addE (r := ((4 * i + j : Nat) : Int)) rfl rfl (by rw [wrap64_in _ (by omega)]; omega)) (Sv (o_ix sl74 rfl rfl (by omega)) (Sv (oL sc5 rfl hcs_x.first) (Sv (o_conv84 Tryz.underlying5 Tryz.underlying147 rfl) ?_)))))))))))))
   refine Sv (o_add4 rfl rfl) (Za rfl (Ln (eI (by simp) (e_K (hK13 _ _ _ _ (Cr (Zm rfl (Sv (o_addN rfl rfl (by omega)) (Za rfl (Ln ?_))))))))))
   rw [← shl_or, ← wordOf_succ hx_d]
   exact eR (σ := Nat) (s := j) (j + 1) ⟨rfl, rfl, rfl, rfl, rfl, rfl, rfl, trivial⟩ ⟨by omega, Ow, Lw, E⟩ (by omega)
  ·have hj4 : j = 4 := by omega
   subst hj4
   refine c_exit (eT (by simp) (eT (by simp) (e_hit (e_K (hK9 _ _ _ _ (Cr (tW 2 rfl (s_bslice (cs := [_]) sl148 zv147 rfl rfl rfl (by decide) rfl fun g1 w3 N1 => ?_))))))))
   have Lg1_E := N1.le E
   have Dow_g1 := N1.own_ne Ow
   replace E := E.then N1.mod
   replace Ow := Ow.mod0 N1.mod
   have Bg1 := N1.blk
   refine s_append sl148 rfl rfl Ow (Src.own Tryz.underlying148 (Own.all (cs := [_]) Bg1 rfl (by omega)) (by simp [W4, Value.oneCell'])) (by decide) (by omega) (by omega) rfl fun v1 w4 A1 => ?_
   have Dv1_g1 := A1.ne Dow_g1 Bg1
   have Lv1_E := A1.ge Lw E
   replace Bg1 := Bg1.mod A1.mod (fun hx => Dow_g1 _ hx rfl)
   replace E := E.trans' A1.mod (fun x hx => .inr (Lw x hx))
   replace Ow := A1.own
   exact Za rfl (Ln (eI (by simp) (e_K (hK7 _ _ _ _ (Cr (Zm rfl (Sv (o_addN rfl rfl (by omega)) (Za rfl (Ln (eR (σ := Nat × Value) (s := ⟨i, v⟩) (⟨i + 1, v1⟩) ⟨rfl, rfl, rfl, rfl, rfl, trivial⟩ ⟨by omega, Ow.wsnoc (by rw [if_pos hlt16]), Lv1_E, E⟩ (by dsimp only; omega)))))))))))
 ·have hi16 : i = 16 := by omega
  subst hi16
  refine c_exit (eT (by simp) (eT (by simp) (e_hit (e_K (hK3 _ _ _ _ (Cq fun K14 hK14 => Cq fun K15 hK15 => Cr (Za rfl (Ln (e_K (hK15 _ _ _ _ (cB (c_loop (σ := Nat × Value) (fun ⟨i, v⟩ => [(0, .slice (some as_) 8 cs_), (1, .slice adb b.length cb), (2, .slice (some ak_) 64 ck), (7, v), (11, .int .i64 (i : Int))]) (fun ⟨i, v⟩ w1 => 16 ≤ i ∧ i ≤ 64 ∧ Own w1 147 1 v i (((sch b i).map wcells).flatten) ∧ (∀ x ∈ ob v, w.heap.size ≤ x) ∧ Mod [] w w1) (fun ⟨i, v⟩ => 64 - i) (⟨16, v⟩) ⟨rfl, rfl, rfl, rfl, rfl, trivial⟩ (⟨by omega, by omega, Ow, Lw, E⟩) ?_))))))))))))
  rintro ⟨i, v⟩ w5 ⟨hi0, hi, Ow, Lw, E⟩
  refine Cq fun K16 hK16 => Cq fun K17 hK17 => Cr (tW 2 rfl (Ln (e_K (hK17 _ _ _ _ ?_))))
  refine c_if rfl (fun h51 => ?_) (fun h51 => ?_)
  ·obtain ⟨adw, cw, rfl⟩ : ∃ a c, v = .slice (some a) i c := by
    rcases Ow.2 with ⟨h0, h1⟩ | ⟨g_, o_, c_, cs_, h0, _⟩
    ·omega
    ·exact ⟨_, _, h0⟩
   obtain ⟨_, _, hw0, hw1, hw2⟩ := Ow.form
   injection hw0 with _ _ hw0
   subst hw0
   have hlt64 : i < 64 := by omega
   have RO_x15 := Ow.words (sch_len b _)
   obtain ⟨a_x15, ha_x15, hcs_x15, _⟩ := flat_at (cells := wcells) (xs := (sch b i)) (i := i - 15) RO_x15 (at32_get (by rw [sch_len]; omega))
   injection ha_x15 with ha_x15
   subst ha_x15
   have RO_x2 := Ow.words (sch_len b _)
   obtain ⟨a_x2, ha_x2, hcs_x2, _⟩ := flat_at (cells := wcells) (xs := (sch b i)) (i := i - 2) RO_x2 (at32_get (by rw [sch_len]; omega))
   injection ha_x2 with ha_x2
   subst ha_x2
   refine cK (e_K (hK16 _ _ _ _ (Cq fun K18 hK18 => cB (Cq fun K19 hK19 => c_draw wide (by kernel_rfl) (tU 2 rfl rfl (tv (fun w_ E_ => (o_subE (r := ((i - 15 : Nat) : Int)) rfl rfl (by rw [wrap64_in _ (by omega)]; omega))) rfl rfl (tv (fun w_ E_ => (o_ix sl148 rfl rfl (by omega))) rfl rfl (tv (fun w_ E_ => (oL sc147 rfl (hcs_x15.mod0 E_).first)) rfl rfl (tU 2 rfl rfl (tv (fun w_ E_ => (o_subE (r := ((i - 2 : Nat) : Int)) rfl rfl (by rw [wrap64_in _ (by omega)]; omega))) rfl rfl (tv (fun w_ E_ => (o_ix sl148 rfl rfl (by omega))) rfl rfl (tv (fun w_ E_ => (oL sc147 rfl (hcs_x2.mod0 E_).first)) rfl rfl ?_))))))))))))
   refine tU 2 rfl rfl (tw_nil rfl fun w6 E_ => ?_)
   replace E := E.then E_
   replace Ow := Ow.mod0 E_
   refine e_K (hK19 _ _ _ _ (Cq fun K20 hK20 => Cr (Zm rfl (sc (oC ent173 rfl) (c_turn _ _ 7 (by decide)) rfl fun v_ w7 h_ => ?_))))
   obtain ⟨rfl, E_⟩ := h_
   replace E := E.then E_
   replace Ow := Ow.mod0 E_
   refine Zm rfl (sc (oC ent173 rfl) (c_turn _ _ 18 (by decide)) rfl fun v_ w8 h_ => ?_)
   obtain ⟨rfl, E_⟩ := h_
   replace E := E.then E_
   replace Ow := Ow.mod0 E_
   refine Sv (o_xor4 rfl rfl) (Zm rfl (Sv (o_shr4 (m := 3) rfl rfl (by decide)) (Sv (o_xor4 rfl rfl) (Za rfl (Ln (e_K (hK20 _ _ _ _ (Cq fun K21 hK21 => Cr (Zm rfl (sc (oC ent173 rfl) (c_turn _ _ 17 (by decide)) rfl fun v_ w9 h_ => ?_))))))))))
   obtain ⟨rfl, E_⟩ := h_
   replace E := E.then E_
   replace Ow := Ow.mod0 E_
   refine Zm rfl (sc (oC ent173 rfl) (c_turn _ _ 19 (by decide)) rfl fun v_ w10 h_ => ?_)
   obtain ⟨rfl, E_⟩ := h_
   replace E := E.then E_
   replace Ow := Ow.mod0 E_
   refine Sv (o_xor4 rfl rfl) (Zm rfl (Sv (o_shr4 (m := 10) rfl rfl (by decide)) (Sv (o_xor4 rfl rfl) (Za rfl (Ln (e_K (hK21 _ _ _ _ ?_)))))))
   have RO_x16 := Ow.words (sch_len b _)
   obtain ⟨a_x16, ha_x16, hcs_x16, _⟩ := flat_at (cells := wcells) (xs := (sch b i)) (i := i - 16) RO_x16 (at32_get (by rw [sch_len]; omega))
   injection ha_x16 with ha_x16
   subst ha_x16
   have RO_x7 := Ow.words (sch_len b _)
   obtain ⟨a_x7, ha_x7, hcs_x7, _⟩ := flat_at (cells := wcells) (xs := (sch b i)) (i := i - 7) RO_x7 (at32_get (by rw [sch_len]; omega))
   injection ha_x7 with ha_x7
   subst ha_x7
   refine c_drawp [0] [1, 2, 3, 4, 5, 6, 7, 8, 9, 10, 11, 12, 13, 14, 15] 16 [17, 18] wide (by kernel_rfl) (fun _ _ _ h => h.2) (pw (fun _ => (oM rfl)) rfl rfl (pw_nil (tU 2 rfl rfl (tv (fun w_ E_ => (o_subE (r := ((i - 16 : Nat) : Int)) rfl rfl (by rw [wrap64_in _ (by omega)]; omega))) rfl rfl (tv (fun w_ E_ => (o_ix sl148 rfl rfl (by omega))) rfl rfl (tv (fun w_ E_ => (oL sc147 rfl (hcs_x16.mod0 E_).first)) rfl rfl (tv (fun w_ E_ => (oM rfl)) rfl rfl (tv (fun w_ E_ => (o_add4 rfl rfl)) rfl rfl (tU 2 rfl rfl (tv (fun w_ E_ => (o_subE (r := ((i - 7 : Nat) : Int)) rfl rfl (by rw [wrap64_in _ (by omega)]; omega))) rfl rfl (tv (fun w_ E_ => (o_ix sl148 rfl rfl (by omega))) rfl rfl (tv (fun w_ E_ => (oL sc147 rfl (hcs_x7.mod0 E_).first)) rfl rfl (tv (fun w_ E_ => (o_add4 rfl rfl)) rfl rfl ?_)))))))))))))
   refine tv (fun w_ E_ => (oM rfl)) rfl rfl (tv (fun w_ E_ => (o_add4 rfl rfl)) rfl rfl (tw_tail rfl fun w11 E_ => ?_))
   replace E := E.then E_
   replace Ow := Ow.mod0 E_
   refine s_bslice (cs := [_]) sl148 zv147 rfl rfl rfl (by decide) rfl fun g2 w12 N2 => ?_
   have Lg2_E := N2.le E
   have Dow_g2 := N2.own_ne Ow
   replace E := E.then N2.mod
   replace Ow := Ow.mod0 N2.mod
   have Bg2 := N2.blk
   refine s_append sl148 rfl rfl Ow (Src.own Tryz.underlying148 (Own.all (cs := [_]) Bg2 rfl (by omega)) (by simp [W4, Value.oneCell'])) (by decide) (by omega) (by omega) rfl fun v2 w13 A2 => ?_
   have Dv2_g2 := A2.ne Dow_g2 Bg2
   have Lv2_E := A2.ge Lw E
   replace Bg2 := Bg2.mod A2.mod (fun hx => Dow_g2 _ hx rfl)
   replace E := E.trans' A2.mod (fun x hx => .inr (Lw x hx))
   replace Ow := A2.own
   exact Za rfl (Ln (eI (by simp) (e_K (hK18 _ _ _ _ (Cr (Zm rfl (Sv (o_addN rfl rfl (by omega)) (Za rfl (Ln (eR (σ := Nat × Value) (s := ⟨i, v⟩) (⟨i + 1, v2⟩) ⟨rfl, rfl, rfl, rfl, rfl, trivial⟩ ⟨by omega, by omega, Ow.wsnoc (by rw [if_neg (by omega)]; rfl), Lv2_E, E⟩ (by dsimp only; omega)))))))))))
  ·have hi64 : i = 64 := by omega
   subst hi64
   obtain ⟨adw, cw, rfl⟩ : ∃ a c, v = .slice (some a) 64 c := by
    rcases Ow.2 with ⟨h0, h1⟩ | ⟨g_, o_, c_, cs_, h0, _⟩
    ·omega
    ·exact ⟨_, _, h0⟩
   obtain ⟨_, _, hw0, hw1, hw2⟩ := Ow.form
   injection hw0 with _ _ hw0
   subst hw0
   obtain ⟨a_s0, ha_s0, hcs_s0, _⟩ := flat_at (i := 0) (R.to0 E) rfl
   injection ha_s0 with ha_s0
   subst ha_s0
   obtain ⟨a_s1, ha_s1, hcs_s1, _⟩ := flat_at (i := 1) (R.to0 E) rfl
   injection ha_s1 with ha_s1
   subst ha_s1
   obtain ⟨a_s2, ha_s2, hcs_s2, _⟩ := flat_at (i := 2) (R.to0 E) rfl
   injection ha_s2 with ha_s2
   subst ha_s2
   obtain ⟨a_s3, ha_s3, hcs_s3, _⟩ := flat_at (i := 3) (R.to0 E) rfl
   injection ha_s3 with ha_s3
   subst ha_s3
   obtain ⟨a_s4, ha_s4, hcs_s4, _⟩ := flat_at (i := 4) (R.to0 E) rfl
   injection ha_s4 with ha_s4
   subst ha_s4
   obtain ⟨a_s5, ha_s5, hcs_s5, _⟩ := flat_at (i := 5) (R.to0 E) rfl
   injection ha_s5 with ha_s5
   subst ha_s5
   obtain ⟨a_s6, ha_s6, hcs_s6, _⟩ := flat_at (i := 6) (R.to0 E) rfl
   injection ha_s6 with ha_s6
   subst ha_s6
   obtain ⟨a_s7, ha_s7, hcs_s7, _⟩ := flat_at (i := 7) (R.to0 E) rfl
   injection ha_s7 with ha_s7
   subst ha_s7
   refine c_exit (eT (by simp) (eT (by simp) (e_hit (e_K (hK14 _ _ _ _ (Cq fun K22 hK22 => c_draw wide (by kernel_rfl) (tv (fun w_ E_ => (oM rfl)) rfl rfl (tv (fun w_ E_ => (o_ix sl148 rfl rfl (by omega))) rfl rfl (tv (fun w_ E_ => (oL sc147 rfl (hcs_s0.mod0 E_).first)) rfl rfl (tv (fun w_ E_ => (oM rfl)) rfl rfl (tv (fun w_ E_ => (o_ix sl148 rfl rfl (by omega))) rfl rfl (tv (fun w_ E_ => (oL sc147 rfl (hcs_s1.mod0 E_).first)) rfl rfl (tv (fun w_ E_ => (oM rfl)) rfl rfl ?_)))))))))))))
   refine tv (fun w_ E_ => (o_ix sl148 rfl rfl (by omega))) rfl rfl (tv (fun w_ E_ => (oL sc147 rfl (hcs_s2.mod0 E_).first)) rfl rfl (tv (fun w_ E_ => (oM rfl)) rfl rfl (tv (fun w_ E_ => (o_ix sl148 rfl rfl (by omega))) rfl rfl (tv (fun w_ E_ => (oL sc147 rfl (hcs_s3.mod0 E_).first)) rfl rfl (tv (fun w_ E_ => (oM rfl)) rfl rfl (tv (fun w_ E_ => (o_ix sl148 rfl rfl (by omega))) rfl rfl (tv (fun w_ E_ => (oL sc147 rfl (hcs_s4.mod0 E_).first)) rfl rfl (tv (fun w_ E_ => (oM rfl)) rfl rfl (tv (fun w_ E_ => (o_ix sl148 rfl rfl (by omega))) rfl rfl (tv (fun w_ E_ => (oL sc147 rfl (hcs_s5.mod0 E_).first)) rfl rfl (tv (fun w_ E_ => (oM rfl)) rfl rfl (tv (fun w_ E_ => (o_ix sl148 rfl rfl (by omega))) rfl rfl (tv (fun w_ E_ => (oL sc147 rfl (hcs_s6.mod0 E_).first)) rfl rfl ?_)))))))))))))
   refine tv (fun w_ E_ => (oM rfl)) rfl rfl (tv (fun w_ E_ => (o_ix sl148 rfl rfl (by omega))) rfl rfl (tv (fun w_ E_ => (oL sc147 rfl (hcs_s7.mod0 E_).first)) rfl rfl (tU 8 rfl rfl (tw_nil rfl fun w14 E_ => ?_))))
   replace E := E.then E_
   replace Ow := Ow.mod0 E_
   refine e_K (hK22 _ _ _ _ (Cq fun K23 hK23 => Cq fun K24 hK24 => Cr (Za rfl (Ln (e_K (hK24 _ _ _ _ (cB (c_loop (σ := Nat) (fun i => [(0, .slice (some as_) 8 cs_), (2, .slice (some ak_) 64 ck), (7, .slice (some adw) 64 cw), (24, .int .i64 (i : Int)), (16, W4 (rnds numsK (sch b 64) s i).a), (17, W4 (rnds numsK (sch b 64) s i).b), (18, W4 (rnds numsK (sch b 64) s i).c), (19, W4 (rnds numsK (sch b 64) s i).d), (20, W4 (rnds numsK (sch b 64) s i).e), (21, W4 (rnds numsK (sch b 64) s i).f), (22, W4 (rnds numsK (sch b 64) s i).g), (23, W4 (rnds numsK (sch b 64) s i).h)]) (fun i w1 => i ≤ 64 ∧ Own w1 147 1 (.slice (some adw) 64 cw) 64 (((sch b 64).map wcells).flatten) ∧ Mod [] w w1) (fun i => 64 - i) (0) ⟨rfl, rfl, rfl, rfl, rfl, rfl, rfl, rfl, rfl, rfl, rfl, rfl, trivial⟩ (⟨by omega, Ow, E⟩) ?_))))))))
   rintro i w15 ⟨hi, Ow, E⟩
   refine Cq fun K25 hK25 => Cq fun K26 hK26 => Cr (tW 2 rfl (Ln (e_K (hK26 _ _ _ _ ?_))))
   refine c_if rfl (fun h123 => ?_) (fun h123 => ?_)
   ·have hlt64 : i < 64 := by omega
    have RO_xw := Ow.words (sch_len b _)
    obtain ⟨a_xw, ha_xw, hcs_xw, _⟩ := flat_at (cells := wcells) (xs := (sch b 64)) (i := i) RO_xw (at32_get (by rw [sch_len]; omega))
    injection ha_xw with ha_xw
    subst ha_xw
    obtain ⟨a_k, ha_k, hcs_k, _⟩ := flat_at (cells := wcells) (i := i) (Rk.to0 E) (at32_get (by show i < 64; omega))
    injection ha_k with ha_k
    subst ha_k
    refine cK (e_K (hK25 _ _ _ _ (Cq fun K27 hK27 => cB (Cq fun K28 hK28 => c_draw wide (by kernel_rfl) (tU 2 rfl rfl (tc (fun w_ E_ => oC ent174 rfl) (fun w_ E_ => c_three _ _ 6 11 25 (by decide) (by decide) (by decide)) rfl rfl (tv (fun w_ E_ => (o_add4 rfl rfl)) rfl rfl (tU 2 rfl rfl (tv (fun w_ E_ => (o_and4 rfl rfl)) rfl rfl (tv (fun w_ E_ => (oM rfl)) rfl rfl (tv (fun w_ E_ => (o_com4 rfl)) rfl rfl (tv (fun w_ E_ => (oM rfl)) rfl rfl ?_))))))))))))
    refine tv (fun w_ E_ => (o_and4 rfl rfl)) rfl rfl (tv (fun w_ E_ => (o_xor4 rfl rfl)) rfl rfl (tv (fun w_ E_ => (o_add4 rfl rfl)) rfl rfl (tU 2 rfl rfl (tv (fun w_ E_ => (o_ix sl148 rfl rfl (by omega))) rfl rfl (tv (fun w_ E_ => (oL sc147 rfl (hcs_k.mod0 E_).first)) rfl rfl (tv (fun w_ E_ => (o_add4 rfl rfl)) rfl rfl (tU 2 rfl rfl (tv (fun w_ E_ => (o_ix sl148 rfl rfl (by omega))) rfl rfl (tv (fun w_ E_ => (oL sc147 rfl (hcs_xw.mod0 E_).first)) rfl rfl (tv (fun w_ E_ => (o_add4 rfl rfl)) rfl rfl (tv (fun w_ E_ => (o_as rfl)) rfl rfl (tw_nil rfl fun w16 E_ => ?_))))))))))))
    replace E := E.then E_
    replace Ow := Ow.mod0 E_
    refine e_K (hK28 _ _ _ _ (Cq fun K29 hK29 => Cr (Zm rfl (sc (oC ent174 rfl) (c_three _ _ 2 13 22 (by decide) (by decide) (by decide)) rfl fun v_ w17 h_ => ?_))))
    obtain ⟨rfl, E_⟩ := h_
    replace E := E.then E_
    replace Ow := Ow.mod0 E_
    refine tW 2 rfl (Sv (o_and4 rfl rfl) (tW 2 rfl (Sv (o_and4 rfl rfl) (Sv (o_xor4 rfl rfl) (tW 2 rfl (Sv (o_and4 rfl rfl) (Sv (o_xor4 rfl rfl) (Sv (o_add4 rfl rfl) (Za rfl (Ln (e_K (hK29 _ _ _ _ (Cq fun K30 hK30 => Cr ?_)))))))))))))
    refine tW 2 rfl (Ln (e_K (hK30 _ _ _ _ (Cq fun K31 hK31 => Cr (tW 2 rfl (Ln (e_K (hK31 _ _ _ _ (Cq fun K32 hK32 => Cr (tW 2 rfl (Ln (e_K (hK32 _ _ _ _ (Cq fun K33 hK33 => ?_))))))))))))))
    refine Cr (tW 2 rfl (Sv (o_add4 rfl rfl) (Za rfl (Ln (e_K (hK33 _ _ _ _ (Cq fun K34 hK34 => Cr (tW 2 rfl (Ln (e_K (hK34 _ _ _ _ (Cq fun K35 hK35 => Cr (tW 2 rfl ?_)))))))))))))
    refine Ln (e_K (hK35 _ _ _ _ (Cq fun K36 hK36 => Cr (tW 2 rfl (Ln (e_K (hK36 _ _ _ _ (Cr (tW 2 rfl (Sv (o_add4 rfl rfl) (Za rfl (Ln (eI (by simp) (e_K (hK27 _ _ _ _ ?_)))))))))))))))
    exact Cr (Zm rfl (Sv (o_addN rfl rfl (by omega)) (Za rfl (Ln (eR (σ := Nat) (s := i) (i + 1) ⟨rfl, rfl, rfl, rfl, rfl, rfl, rfl, rfl, rfl, rfl, rfl, rfl, trivial⟩ ⟨by omega, Ow, E⟩ (by omega))))))
   ·have hi64 : i = 64 := by omega
    subst hi64
    obtain ⟨a_r0, ha_r0, hcs_r0, _⟩ := flat_at (i := 0) (R.to0 E) rfl
    injection ha_r0 with ha_r0
    subst ha_r0
    obtain ⟨a_r1, ha_r1, hcs_r1, _⟩ := flat_at (i := 1) (R.to0 E) rfl
    injection ha_r1 with ha_r1
    subst ha_r1
    obtain ⟨a_r2, ha_r2, hcs_r2, _⟩ := flat_at (i := 2) (R.to0 E) rfl
    injection ha_r2 with ha_r2
    subst ha_r2
    obtain ⟨a_r3, ha_r3, hcs_r3, _⟩ := flat_at (i := 3) (R.to0 E) rfl
    injection ha_r3 with ha_r3
    subst ha_r3
    obtain ⟨a_r4, ha_r4, hcs_r4, _⟩ := flat_at (i := 4) (R.to0 E) rfl
    injection ha_r4 with ha_r4
    subst ha_r4
    obtain ⟨a_r5, ha_r5, hcs_r5, _⟩ := flat_at (i := 5) (R.to0 E) rfl
    injection ha_r5 with ha_r5
    subst ha_r5
    obtain ⟨a_r6, ha_r6, hcs_r6, _⟩ := flat_at (i := 6) (R.to0 E) rfl
    injection ha_r6 with ha_r6
    subst ha_r6
    obtain ⟨a_r7, ha_r7, hcs_r7, _⟩ := flat_at (i := 7) (R.to0 E) rfl
    injection ha_r7 with ha_r7
    subst ha_r7
    refine c_exit (eT (by simp) (eT (by simp) (e_hit (e_K (hK23 _ _ _ _ (Cq fun K37 hK37 => c_drawp [] [0, 1, 2, 3, 4, 5, 6, 7, 8, 9, 10, 11, 12, 13, 14, 15, 16, 17, 18, 19, 20, 21, 22, 23, 24, 25, 26, 27, 28, 29, 30, 31, 32, 33, 34, 35, 36, 37, 38, 39] 40 [41] wide (by kernel_rfl) (fun _ _ _ h => h.2) (pw_nil (tv (fun w_ E_ => (oM rfl)) rfl rfl (tv (fun w_ E_ => (o_ix sl148 rfl rfl (by omega))) rfl rfl (tv (fun w_ E_ => (oL sc147 rfl (hcs_r0.mod0 E_).first)) rfl rfl (tv (fun w_ E_ => (oM rfl)) rfl rfl (tv (fun w_ E_ => (o_add4 rfl rfl)) rfl rfl (tv (fun w_ E_ => (oM rfl)) rfl rfl ?_)))))))))))))
    refine tv (fun w_ E_ => (o_ix sl148 rfl rfl (by omega))) rfl rfl (tv (fun w_ E_ => (oL sc147 rfl (hcs_r1.mod0 E_).first)) rfl rfl (tv (fun w_ E_ => (oM rfl)) rfl rfl (tv (fun w_ E_ => (o_add4 rfl rfl)) rfl rfl (tv (fun w_ E_ => (oM rfl)) rfl rfl (tv (fun w_ E_ => (o_ix sl148 rfl rfl (by omega))) rfl rfl (tv (fun w_ E_ => (oL sc147 rfl (hcs_r2.mod0 E_).first)) rfl rfl (tv (fun w_ E_ => (oM rfl)) rfl rfl (tv (fun w_ E_ => (o_add4 rfl rfl)) rfl rfl (tv (fun w_ E_ => (oM rfl)) rfl rfl (tv (fun w_ E_ => (o_ix sl148 rfl rfl (by omega))) rfl rfl (tv (fun w_ E_ => (oL sc147 rfl (hcs_r3.mod0 E_).first)) rfl rfl (tv (fun w_ E_ => (oM rfl)) rfl rfl (tv (fun w_ E_ => (o_add4 rfl rfl)) rfl rfl ?_)))))))))))))
    refine tv (fun w_ E_ => (oM rfl)) rfl rfl (tv (fun w_ E_ => (o_ix sl148 rfl rfl (by omega))) rfl rfl (tv (fun w_ E_ => (oL sc147 rfl (hcs_r4.mod0 E_).first)) rfl rfl (tv (fun w_ E_ => (oM rfl)) rfl rfl (tv (fun w_ E_ => (o_add4 rfl rfl)) rfl rfl (tv (fun w_ E_ => (oM rfl)) rfl rfl (tv (fun w_ E_ => (o_ix sl148 rfl rfl (by omega))) rfl rfl (tv (fun w_ E_ => (oL sc147 rfl (hcs_r5.mod0 E_).first)) rfl rfl (tv (fun w_ E_ => (oM rfl)) rfl rfl (tv (fun w_ E_ => (o_add4 rfl rfl)) rfl rfl (tv (fun w_ E_ => (oM rfl)) rfl rfl (tv (fun w_ E_ => (o_ix sl148 rfl rfl (by omega))) rfl rfl (tv (fun w_ E_ => (oL sc147 rfl (hcs_r6.mod0 E_).first)) rfl rfl (tv (fun w_ E_ => (oM rfl)) rfl rfl ?_)))))))))))))
    refine tv (fun w_ E_ => (o_add4 rfl rfl)) rfl rfl (tv (fun w_ E_ => (oM rfl)) rfl rfl (tv (fun w_ E_ => (o_ix sl148 rfl rfl (by omega))) rfl rfl (tv (fun w_ E_ => (oL sc147 rfl (hcs_r7.mod0 E_).first)) rfl rfl (tv (fun w_ E_ => (oM rfl)) rfl rfl (tv (fun w_ E_ => (o_add4 rfl rfl)) rfl rfl (tw_tail rfl fun w18 E_ => ?_))))))
    replace E := E.then E_
    replace Ow := Ow.mod0 E_
    refine s_bslice (cs := [_, _, _, _, _, _, _, _]) sl148 zv147 rfl rfl rfl (by decide) rfl fun g3 w19 N3 => ?_
    have Lg3_E := N3.le E
    have Dow_g3 := N3.own_ne Ow
    replace E := E.then N3.mod
    replace Ow := Ow.mod0 N3.mod
    have Bg3 := N3.blk
    exact Za rfl (Ln (e_K (hK37 _ _ _ _ (cR (ret1 rfl rfl ⟨Own.all (cs := [_, _, _, _, _, _, _, _]) Bg3 rfl (by omega), fun x hx => by simp [ob] at hx; subst hx; exact Lg3_E, E⟩)))))
end Go.Proofs.YtknndpjacklkeaaGreatDoor.V

set_option linter.unusedVariables false
set_option linter.unusedSimpArgs false
set_option maxRecDepth 10000
namespace Go.Proofs.YtknndpjacklkeaaGreatDoor.V
open Go Go.Proofs
theorem zv202 : zvB Tryz.prog 202 (List.replicate 64 (.int .u32 0)) := by unfold zvB; kernel_rfl
theorem ent199 : Ent Tryz.prog 199 := Ent.of Tryz.func199 (by kernel_rfl) (by kernel_rfl)
theorem ar202 : arB Tryz.prog 202 64 147 1 = true := by kernel_rfl
theorem ent200 : Ent Tryz.prog 200 := Ent.of Tryz.func200 (by kernel_rfl) (by kernel_rfl)
theorem fd184_0 : fdB Tryz.prog 184 0 0 8 = true := by kernel_rfl
theorem ag181 : agB Tryz.prog 181 8 = true := by kernel_rfl
theorem zv181 : zvB Tryz.prog 181 ([.int .u32 0, .int .u32 0, .int .u32 0, .int .u32 0, .int .u32 0, .int .u32 0, .int .u32 0, .int .u32 0]) := by unfold zvB; kernel_rfl
theorem ar181 : arB Tryz.prog 181 8 147 1 = true := by kernel_rfl
theorem c_blk64 (A : List Nat) (w : World) (s : S8) (b : List UInt8) (gh : Nat) (wv cnt v1 : Value) (Bgh : Blk w gh 184 [W4 s.a, W4 s.b, W4 s.c, W4 s.d, W4 s.e, W4 s.f, W4 s.g, W4 s.h, wv, cnt]) (hT : Cs w ⟨gD, 0, none⟩ (numsK.map W4)) (h0 : gh ≠ gD) (Rb : Rep A w (byD b) v1) (hA : gh ∈ A) (hb : 64 ≤ b.length) : Calls Tryz.prog 172 [.pointer (some ⟨gh, 0, none⟩), v1].toArray w (Ret fun _ w' => Blk w' gh 184 ((comp s b).cells ++ [wv, cnt]) ∧ Mod [gh] w w') := by
 refine enter Tryz.func172 rfl rfl rfl (l := [(0, _), (1, _)]) ⟨rfl, rfl, trivial⟩ ?_
 have E := Mod.refl [] w
 obtain ⟨adb, cb, rfl, hb1, hb2⟩ := flat_len Rb
 replace E := Mod.refl [gh] w
 have h0m : gD ∉ [gh] := by simpa using h0.symm
 have hMA : ∀ x ∈ [gh], x ∈ A := by simpa using hA
 refine Cq fun K1 hK1 => Cr (s_alloc zv202 rfl fun g1 w1 N1 => ?_)
 have Lg1_E := N1.le E
 have Dgh_g1 := N1.ne Bgh
 replace Bgh := Bgh.mod0 N1.mod
 replace E := E.then N1.mod
 have Bg1 := N1.blk
 refine Ln (e_K (hK1 _ _ _ _ (Cq fun K2 hK2 => Cq fun K3 hK3 => Cr (Zm rfl (Ln (e_K (hK3 _ _ _ _ (cB (c_loop (σ := Nat) (fun i => [(0, .pointer (some ⟨gh, 0, none⟩)), (1, .slice adb b.length cb), (4, .pointer (some ⟨g1, 0, none⟩)), (16, .int .i64 (i : Int))]) (fun i w1 => i ≤ 64 ∧ Blk w1 g1 202 (rowW (sch b i) 64) ∧ Blk w1 gh 184 [W4 s.a, W4 s.b, W4 s.c, W4 s.d, W4 s.e, W4 s.f, W4 s.g, W4 s.h, wv, cnt] ∧ Mod [gh] w w1) (fun i => 64 - i) (0) ⟨rfl, rfl, rfl, rfl, trivial⟩ (⟨by omega, by rw [rowW_nil]; exact Bg1, Bgh, E⟩) ?_)))))))))
 rintro i w2 ⟨hi, Bg1, Bgh, E⟩
 refine Cq fun K4 hK4 => Cr (Sv (o_lss rfl rfl) (Ln (e_K (hK4 _ _ _ _ (Cq fun K5 hK5 => ?_)))))
 refine c_if rfl (fun h17 => ?_) (fun h17 => ?_)
 ·have hlt : i < 64 := by omega
  refine cK (e_K (hK5 _ _ _ _ (Cq fun K6 hK6 => cB (Cq fun K7 hK7 => Cr (tW 2 rfl (Ln (e_K (hK7 _ _ _ _ (Cq fun K8 hK8 => Cq fun K9 hK9 => Cr (tW 2 rfl (Ln ?_)))))))))))
  refine e_K (hK9 _ _ _ _ ?_)
  refine c_if rfl (fun h20 => ?_) (fun h20 => ?_)
  ·replace h20 : i < 16 := by omega
   refine Cq fun K10 hK10 => Cr (tW 3 rfl (Sv (o_mulE (r := ((4 * i : Nat) : Int)) rfl rfl (by rw [wrap64_in _ (by omega)]; omega)) (Sv (o_slfrom (lo := 4 * i) sl74 rfl rfl (by omega) (by omega)) ?_)))
   have RW := flat_from (i := 4 * i) (Rb.toM E hMA) (by omega)
   refine sc (oC ent199 rfl) (c_word A _ (b.drop (4 * i)) _ RW (by rw [List.length_drop]; omega)) rfl fun v_ w3 h_ => ?_
   obtain ⟨rfl, E_⟩ := h_
   replace Bgh := Bgh.mod0 E_
   replace Bg1 := Bg1.mod0 E_
   replace E := E.then E_
   refine Sv (o_ixa ar202 rfl rfl (by omega)) (s_st1 (i := i) sc147 Bg1 rfl rfl rfl (by rw [rowW_len (by rw [sch_len]; omega)]; exact hlt) fun wS P1 => ?_)
   replace E := E.own P1.mod Lg1_E
   replace Bgh := Bgh.ne P1.mod Dgh_g1
   replace Bg1 := P1.blk
   exact Ln (e_K (hK10 _ _ _ _ (c_exit (eT (by simp) (e_hit (e_K (hK6 _ _ _ _ (Cr (Sv (o_addN rfl rfl (by omega)) (Zm rfl (Ln (eR (σ := Nat) (s := i) (i + 1) ⟨rfl, rfl, rfl, rfl, trivial⟩ ⟨by omega, row_step hlt (by rw [if_pos h20]) Bg1, Bgh, E⟩ (by omega)))))))))))))
  ·replace h20 : ¬ i < 16 := by omega
   refine cK (e_K (hK8 _ _ _ _ (Cq fun K11 hK11 => c_draw wide (by kernel_rfl) (tv (fun w_ E_ => (oM rfl)) rfl rfl (tv (fun w_ E_ => (o_subE (r := ((i - 15 : Nat) : Int)) rfl rfl (by rw [wrap64_in _ (by omega)]; omega))) rfl rfl (tv (fun w_ E_ => (o_ixa ar202 rfl rfl (by omega))) rfl rfl (tv (fun w_ E_ => (oL sc147 rfl ((Bg1.mod0 E_).c1 (rowW_get (xs := sch b i) (i := i - 15) (by rw [sch_len]; omega))))) rfl rfl (tv (fun w_ E_ => (oM rfl)) rfl rfl (tv (fun w_ E_ => (o_subE (r := ((i - 2 : Nat) : Int)) rfl rfl (by rw [wrap64_in _ (by omega)]; omega))) rfl rfl (tv (fun w_ E_ => (o_ixa ar202 rfl rfl (by omega))) rfl rfl (tv (fun w_ E_ => (oL sc147 rfl ((Bg1.mod0 E_).c1 (rowW_get (xs := sch b i) (i := i - 2) (by rw [sch_len]; omega))))) rfl rfl (tU 2 rfl rfl (tw_nil rfl fun w4 E_ => ?_)))))))))))))
   replace Bgh := Bgh.mod0 E_
   replace Bg1 := Bg1.mod0 E_
   replace E := E.then E_
   refine e_K (hK11 _ _ _ _ (Cq fun K12 hK12 => Cr (Zm rfl (sc (oC ent200 rfl) (c_rot _ _ 7 (by decide)) rfl fun v_ w5 h_ => ?_))))
   obtain ⟨rfl, E_⟩ := h_
   replace Bgh := Bgh.mod0 E_
   replace Bg1 := Bg1.mod0 E_
   replace E := E.then E_
   refine Zm rfl (sc (oC ent200 rfl) (c_rot _ _ 18 (by decide)) rfl fun v_ w6 h_ => ?_)
   obtain ⟨rfl, E_⟩ := h_
   replace Bgh := Bgh.mod0 E_
   replace Bg1 := Bg1.mod0 E_
   replace E := E.then E_
   refine Sv (o_xor4 rfl rfl) (Zm rfl (Sv (o_shr4 (m := 3) rfl rfl (by decide)) (Sv (o_xor4 rfl rfl) (Za rfl (Ln (e_K (hK12 _ _ _ _ (Cq fun K13 hK13 => Cr (Zm rfl (sc (oC ent200 rfl) (c_rot _ _ 17 (by decide)) rfl fun v_ w7 h_ => ?_))))))))))
   obtain ⟨rfl, E_⟩ := h_
   replace Bgh := Bgh.mod0 E_
   replace Bg1 := Bg1.mod0 E_
   replace E := E.then E_
   refine Zm rfl (sc (oC ent200 rfl) (c_rot _ _ 19 (by decide)) rfl fun v_ w8 h_ => ?_)
   obtain ⟨rfl, E_⟩ := h_
   replace Bgh := Bgh.mod0 E_
   replace Bg1 := Bg1.mod0 E_
   replace E := E.then E_
   refine Sv (o_xor4 rfl rfl) (Zm rfl (Sv (o_shr4 (m := 10) rfl rfl (by decide)) (Sv (o_xor4 rfl rfl) (Za rfl (Ln (e_K (hK13 _ _ _ _ (c_drawp [] [0, 1, 2, 3, 4, 5, 6, 7, 8, 9, 10, 11, 12, 13, 14] 15 [] wide (by kernel_rfl) (fun _ _ _ h => h.2) (pw_nil (tU 2 rfl rfl (tv (fun w_ E_ => (o_subE (r := ((i - 16 : Nat) : Int)) rfl rfl (by rw [wrap64_in _ (by omega)]; omega))) rfl rfl (tv (fun w_ E_ => (o_ixa ar202 rfl rfl (by omega))) rfl rfl (tv (fun w_ E_ => (oL sc147 rfl ((Bg1.mod0 E_).c1 (rowW_get (xs := sch b i) (i := i - 16) (by rw [sch_len]; omega))))) rfl rfl (tv (fun w_ E_ => (oM rfl)) rfl rfl ?_))))))))))))))
   refine tv (fun w_ E_ => (o_add4 rfl rfl)) rfl rfl (tv (fun w_ E_ => (oM rfl)) rfl rfl (tv (fun w_ E_ => (o_subE (r := ((i - 7 : Nat) : Int)) rfl rfl (by rw [wrap64_in _ (by omega)]; omega))) rfl rfl (tv (fun w_ E_ => (o_ixa ar202 rfl rfl (by omega))) rfl rfl (tv (fun w_ E_ => (oL sc147 rfl ((Bg1.mod0 E_).c1 (rowW_get (xs := sch b i) (i := i - 7) (by rw [sch_len]; omega))))) rfl rfl (tv (fun w_ E_ => (o_add4 rfl rfl)) rfl rfl (tv (fun w_ E_ => (oM rfl)) rfl rfl (tv (fun w_ E_ => (o_add4 rfl rfl)) rfl rfl (tv (fun w_ E_ => (o_ixa ar202 rfl rfl (by omega))) rfl rfl (tw_tail rfl fun w9 E_ => ?_)))))))))
   replace Bgh := Bgh.mod0 E_
   replace Bg1 := Bg1.mod0 E_
   replace E := E.then E_
   refine s_st1 (i := i) sc147 Bg1 rfl rfl rfl (by rw [rowW_len (by rw [sch_len]; omega)]; exact hlt) fun wS P1 => ?_
   replace E := E.own P1.mod Lg1_E
   replace Bgh := Bgh.ne P1.mod Dgh_g1
   replace Bg1 := P1.blk
   exact Ln (eI (by simp) (e_K (hK6 _ _ _ _ (Cr (Sv (o_addN rfl rfl (by omega)) (Zm rfl (Ln (eR (σ := Nat) (s := i) (i + 1) ⟨rfl, rfl, rfl, rfl, trivial⟩ ⟨by omega, row_step hlt (by rw [if_neg h20]; rfl) Bg1, Bgh, E⟩ (by omega)))))))))
 ·have hi64 : i = 64 := by omega
  subst hi64
  refine c_exit (eT (by simp) (eT (by simp) (e_hit (e_K (hK2 _ _ _ _ (Cq fun K14 hK14 => Cr (tW 2 rfl (Sv (oA0 fd184_0 rfl) (Sv (o_lda (vs := [_, _, _, _, _, _, _, _]) ag181 rfl rfl (Bgh.cs rfl)) (s_alloc zv181 rfl fun g2 w10 N2 => ?_))))))))))
  have Lg2_E := N2.le E
  have Dgh_g2 := N2.ne Bgh
  have Dg1_g2 := N2.ne Bg1
  replace Bgh := Bgh.mod0 N2.mod
  replace Bg1 := Bg1.mod0 N2.mod
  replace E := E.then N2.mod
  have Bg2 := N2.blk
  refine s_sta (vs := [_, _, _, _, _, _, _, _]) ag181 Bg2 rfl rfl rfl (by simp [W4, Value.oneCell']) (by simp) fun w11 P11 => ?_
  replace Bgh := Bgh.ne P11.mod (Ne.symm (Ne.symm Dgh_g2))
  replace Bg1 := Bg1.ne P11.mod (Ne.symm (Ne.symm Dg1_g2))
  replace E := E.own P11.mod Lg2_E
  replace Bg2 : Blk w11 g2 _ [_, _, _, _, _, _, _, _] := P11.blk
  refine Ln (e_K (hK14 _ _ _ _ (Cq fun K15 hK15 => Cq fun K16 hK16 => Cr (Zm rfl (Ln (e_K (hK16 _ _ _ _ (cB (c_loop (σ := Nat) (fun i => [(0, .pointer (some ⟨gh, 0, none⟩)), (4, .pointer (some ⟨g1, 0, none⟩)), (10, .pointer (some ⟨g2, 0, none⟩)), (72, .int .i64 (i : Int))]) (fun i w1 => i ≤ 64 ∧ Blk w1 g1 202 (rowW (sch b 64) 64) ∧ Blk w1 g2 181 (rnds numsK (sch b 64) s i).cells ∧ Blk w1 gh 184 [W4 s.a, W4 s.b, W4 s.c, W4 s.d, W4 s.e, W4 s.f, W4 s.g, W4 s.h, wv, cnt] ∧ Mod [gh] w w1) (fun i => 64 - i) (0) ⟨rfl, rfl, rfl, rfl, trivial⟩ (⟨by omega, Bg1, Bg2, Bgh, E⟩) ?_)))))))))
  rintro i w12 ⟨hi, Bg1, Bg2, Bgh, E⟩
  refine Cq fun K17 hK17 => Cr (Sv (o_lss rfl rfl) (Ln (e_K (hK17 _ _ _ _ (Cq fun K18 hK18 => ?_)))))
  refine c_if rfl (fun h73 => ?_) (fun h73 => ?_)
  ·have hlt : i < 64 := by omega
   refine cK (e_K (hK18 _ _ _ _ (Cq fun K19 hK19 => cB (Cq fun K20 hK20 => Cr (tW 2 rfl (Ln (e_K (hK20 _ _ _ _ (Cq fun K21 hK21 => c_draw wide (by kernel_rfl) (tv (fun w_ E_ => (o_ixa ar181 rfl rfl (by omega))) rfl rfl (tv (fun w_ E_ => (oL sc147 rfl ((Bg2.mod0 E_).cell rfl))) rfl rfl (tc (fun w_ E_ => oC ent200 rfl) (fun w_ E_ => c_rot _ _ 6 (by decide)) rfl rfl ?_))))))))))))
   refine tv (fun w_ E_ => (o_ixa ar181 rfl rfl (by omega))) rfl rfl (tv (fun w_ E_ => (oL sc147 rfl ((Bg2.mod0 E_).cell rfl))) rfl rfl (tc (fun w_ E_ => oC ent200 rfl) (fun w_ E_ => c_rot _ _ 11 (by decide)) rfl rfl (tv (fun w_ E_ => (o_xor4 rfl rfl)) rfl rfl (tv (fun w_ E_ => (o_ixa ar181 rfl rfl (by omega))) rfl rfl (tv (fun w_ E_ => (oL sc147 rfl ((Bg2.mod0 E_).cell rfl))) rfl rfl (tc (fun w_ E_ => oC ent200 rfl) (fun w_ E_ => c_rot _ _ 25 (by decide)) rfl rfl (tv (fun w_ E_ => (o_xor4 rfl rfl)) rfl rfl (tv (fun w_ E_ => (o_as rfl)) rfl rfl (tw_nil rfl fun w13 E_ => ?_)))))))))
   replace Bgh := Bgh.mod0 E_
   replace Bg1 := Bg1.mod0 E_
   replace Bg2 := Bg2.mod0 E_
   replace E := E.then E_
   refine e_K (hK21 _ _ _ _ (Cq fun K22 hK22 => c_draw wide (by kernel_rfl) (tv (fun w_ E_ => (o_ixa ar181 rfl rfl (by omega))) rfl rfl (tv (fun w_ E_ => (oL sc147 rfl ((Bg2.mod0 E_).cell rfl))) rfl rfl (tv (fun w_ E_ => (oM rfl)) rfl rfl (tv (fun w_ E_ => (o_add4 rfl rfl)) rfl rfl (tv (fun w_ E_ => (o_ixa ar181 rfl rfl (by omega))) rfl rfl (tv (fun w_ E_ => (oL sc147 rfl ((Bg2.mod0 E_).cell rfl))) rfl rfl (tv (fun w_ E_ => (o_ixa ar181 rfl rfl (by omega))) rfl rfl (tv (fun w_ E_ => (oL sc147 rfl ((Bg2.mod0 E_).cell rfl))) rfl rfl (tv (fun w_ E_ => (o_and4 rfl rfl)) rfl rfl (tv (fun w_ E_ => (o_ixa ar181 rfl rfl (by omega))) rfl rfl (tv (fun w_ E_ => (oL sc147 rfl ((Bg2.mod0 E_).cell rfl))) rfl rfl ?_)))))))))))))
   refine tv (fun w_ E_ => (o_com4 rfl)) rfl rfl (tv (fun w_ E_ => (o_ixa ar181 rfl rfl (by omega))) rfl rfl (tv (fun w_ E_ => (oL sc147 rfl ((Bg2.mod0 E_).cell rfl))) rfl rfl (tv (fun w_ E_ => (o_and4 rfl rfl)) rfl rfl (tv (fun w_ E_ => (o_xor4 rfl rfl)) rfl rfl (tv (fun w_ E_ => (o_add4 rfl rfl)) rfl rfl (tv (fun w_ E_ => (oM rfl)) rfl rfl (tv (fun w_ E_ => (o_ixa ar202 rfl rfl (by omega))) rfl rfl (tv (fun w_ E_ => (oL sc147 rfl ((((hT.mod E h0m).mod0 E_)).c1 (nums_get hlt)))) rfl rfl (tv (fun w_ E_ => (o_add4 rfl rfl)) rfl rfl (tv (fun w_ E_ => (oM rfl)) rfl rfl (tv (fun w_ E_ => (o_ixa ar202 rfl rfl (by omega))) rfl rfl (tv (fun w_ E_ => (oL sc147 rfl ((Bg1.mod0 E_).c1 (rowW_get (xs := sch b 64) (i := i) (by rw [sch_len]; omega))))) rfl rfl (tv (fun w_ E_ => (o_add4 rfl rfl)) rfl rfl ?_)))))))))))))
   refine tv (fun w_ E_ => (o_as rfl)) rfl rfl (tw_nil rfl fun w14 E_ => ?_)
   replace Bgh := Bgh.mod0 E_
   replace Bg1 := Bg1.mod0 E_
   replace Bg2 := Bg2.mod0 E_
   replace E := E.then E_
   refine e_K (hK22 _ _ _ _ (Cq fun K23 hK23 => c_draw wide (by kernel_rfl) (tv (fun w_ E_ => (o_ixa ar181 rfl rfl (by omega))) rfl rfl (tv (fun w_ E_ => (oL sc147 rfl ((Bg2.mod0 E_).cell rfl))) rfl rfl (tc (fun w_ E_ => oC ent200 rfl) (fun w_ E_ => c_rot _ _ 2 (by decide)) rfl rfl (tv (fun w_ E_ => (o_ixa ar181 rfl rfl (by omega))) rfl rfl (tv (fun w_ E_ => (oL sc147 rfl ((Bg2.mod0 E_).cell rfl))) rfl rfl (tc (fun w_ E_ => oC ent200 rfl) (fun w_ E_ => c_rot _ _ 13 (by decide)) rfl rfl (tv (fun w_ E_ => (o_xor4 rfl rfl)) rfl rfl (tv (fun w_ E_ => (o_ixa ar181 rfl rfl (by omega))) rfl rfl (tv (fun w_ E_ => (oL sc147 rfl ((Bg2.mod0 E_).cell rfl))) rfl rfl (tc (fun w_ E_ => oC ent200 rfl) (fun w_ E_ => c_rot _ _ 22 (by decide)) rfl rfl (tv (fun w_ E_ => (o_xor4 rfl rfl)) rfl rfl ?_)))))))))))))
   refine tv (fun w_ E_ => (o_as rfl)) rfl rfl (tw_nil rfl fun w15 E_ => ?_)
   replace Bgh := Bgh.mod0 E_
   replace Bg1 := Bg1.mod0 E_
   replace Bg2 := Bg2.mod0 E_
   replace E := E.then E_
   refine e_K (hK23 _ _ _ _ (Cq fun K24 hK24 => Cr (Zm rfl (Sv (o_ixa ar181 rfl rfl (by omega)) (Sv (oL sc147 rfl (Bg2.cell rfl)) (Sv (o_ixa ar181 rfl rfl (by omega)) (Sv (oL sc147 rfl (Bg2.cell rfl)) (Sv (o_and4 rfl rfl) (Sv (o_ixa ar181 rfl rfl (by omega)) (Sv (oL sc147 rfl (Bg2.cell rfl)) (Sv (o_ixa ar181 rfl rfl (by omega)) (Sv (oL sc147 rfl (Bg2.cell rfl)) (Sv (o_and4 rfl rfl) ?_)))))))))))))
   refine Sv (o_xor4 rfl rfl) (Sv (o_ixa ar181 rfl rfl (by omega)) (Sv (oL sc147 rfl (Bg2.cell rfl)) (Sv (o_ixa ar181 rfl rfl (by omega)) (Sv (oL sc147 rfl (Bg2.cell rfl)) (Sv (o_and4 rfl rfl) (Sv (o_xor4 rfl rfl) (Sv (o_add4 rfl rfl) (Za rfl (Ln (e_K (hK24 _ _ _ _ (Cr (tW 2 rfl (Sv (o_add4 rfl rfl) ?_))))))))))))))
   refine Sv (o_ixa ar181 rfl rfl (by omega)) (Sv (oL sc147 rfl (Bg2.cell rfl)) (Sv (o_ixa ar181 rfl rfl (by omega)) (Sv (oL sc147 rfl (Bg2.cell rfl)) (Sv (o_ixa ar181 rfl rfl (by omega)) (Sv (oL sc147 rfl (Bg2.cell rfl)) (Sv (o_ixa ar181 rfl rfl (by omega)) (Sv (oL sc147 rfl (Bg2.cell rfl)) (Zm rfl (Sv (o_add4 rfl rfl) (Sv (o_ixa ar181 rfl rfl (by omega)) (Sv (oL sc147 rfl (Bg2.cell rfl)) (Sv (o_ixa ar181 rfl rfl (by omega)) (Sv (oL sc147 rfl (Bg2.cell rfl)) ?_)))))))))))))
   refine Sv (o_ixa ar181 rfl rfl (by omega)) (Sv (oL sc147 rfl (Bg2.cell rfl)) (Sv (o_builda (cs := [_, _, _, _, _, _, _, _]) ar181 zv181 rfl rfl) (s_sta (vs := [_, _, _, _, _, _, _, _]) ag181 Bg2 rfl rfl rfl (by simp [W4, Value.oneCell']) (by simp) fun w16 P16 => ?_)))
   replace Bgh := Bgh.ne P16.mod (Ne.symm (Ne.symm Dgh_g2))
   replace Bg1 := Bg1.ne P16.mod (Ne.symm (Ne.symm Dg1_g2))
   replace E := E.own P16.mod Lg2_E
   replace Bg2 : Blk w16 g2 _ [_, _, _, _, _, _, _, _] := P16.blk
   exact Ln (eI (by simp) (e_K (hK19 _ _ _ _ (Cr (Sv (o_addN rfl rfl (by omega)) (Zm rfl (Ln (eR (σ := Nat) (s := i) (i + 1) ⟨rfl, rfl, rfl, rfl, trivial⟩ ⟨by omega, Bg1, Bg2, Bgh, E⟩ (by omega)))))))))
  ·have hi64 : i = 64 := by omega
   subst hi64
   obtain ⟨V, hV⟩ : ∃ V, V = rnds numsK (sch b 64) s 64 := ⟨_, rfl⟩
   rw [← hV] at Bg2
   refine c_exit (eT (by simp) (eT (by simp) (e_hit (e_K (hK15 _ _ _ _ (Cq fun K25 hK25 => Cr (Zm rfl (Ln (e_K (hK25 _ _ _ _ (cB (c_loop (σ := Nat) (fun i => [(0, .pointer (some ⟨gh, 0, none⟩)), (10, .pointer (some ⟨g2, 0, none⟩)), (162, .int .i64 (i : Int))]) (fun i w1 => i ≤ 8 ∧ Blk w1 g2 181 V.cells ∧ Blk w1 gh 184 (((List.zipWith (· + ·) s.list V.list).take i ++ s.list.drop i).map W4 ++ [wv, cnt]) ∧ Mod [gh] w w1) (fun i => 8 - i) (0) ⟨rfl, rfl, rfl, trivial⟩ (⟨by omega, Bg2, Bgh, E⟩) ?_))))))))))))
   rintro i w17 ⟨hi, Bg2, Bgh, E⟩
   refine Cq fun K26 hK26 => Cr (Sv (o_lss rfl rfl) (Ln (e_K (hK26 _ _ _ _ (Cq fun K27 hK27 => ?_)))))
   refine c_if rfl (fun h163 => ?_) (fun h163 => ?_)
   ·have hlt : i < 8 := by omega
    refine cK (e_K (hK27 _ _ _ _ (Cq fun K28 hK28 => cB (Cq fun K29 hK29 => Cr (tW 2 rfl (Ln (e_K (hK29 _ _ _ _ (c_drawp [] [0, 1, 2, 3, 4, 5, 6, 7, 8, 9, 10, 11, 12] 13 [] wide (by kernel_rfl) (fun _ _ _ h => h.2) (pw_nil (tU 3 rfl rfl (tv (fun w_ E_ => (oA0 fd184_0 rfl)) rfl rfl (tv (fun w_ E_ => (o_ixa ar181 rfl rfl (by omega))) rfl rfl ?_)))))))))))))
    refine tv (fun w_ E_ => (oL sc147 rfl ((Bgh.mod0 E_).c1 (mix_get (A := s.list) (Z := (List.zipWith (· + ·) s.list V.list)) (i := i) rfl hlt)))) rfl rfl (tv (fun w_ E_ => (oM rfl)) rfl rfl (tv (fun w_ E_ => (o_ixa ar181 rfl rfl (by omega))) rfl rfl (tv (fun w_ E_ => (oL sc147 rfl ((Bg2.mod0 E_).c1 (s8_get hlt)))) rfl rfl (tv (fun w_ E_ => (o_add4 rfl rfl)) rfl rfl (tv (fun w_ E_ => (o_nilc rfl)) rfl rfl (tv (fun w_ E_ => (oA0 fd184_0 rfl)) rfl rfl (tv (fun w_ E_ => (o_ixa ar181 rfl rfl (by omega))) rfl rfl (tw_tail rfl fun w18 E_ => ?_))))))))
    replace Bgh := Bgh.mod0 E_
    replace Bg2 := Bg2.mod0 E_
    replace E := E.then E_
    refine s_st1 (i := i) sc147 Bgh rfl rfl rfl (by simp; omega) fun wS P1 => ?_
    replace E := E.trans P1.mod
    replace Bg2 := Bg2.ne P1.mod (Ne.symm Dgh_g2)
    replace Bgh := P1.blk
    exact Ln (eI (by simp) (e_K (hK28 _ _ _ _ (Cr (Sv (o_addN rfl rfl (by omega)) (Zm rfl (Ln (eR (σ := Nat) (s := i) (i + 1) ⟨rfl, rfl, rfl, trivial⟩ ⟨by omega, Bg2, (mix_set (A := s.list) (Z := (List.zipWith (· + ·) s.list V.list)) rfl hlt (zip_get hlt hlt)) ▸ Bgh, E⟩ (by omega)))))))))
   ·have hi8 : i = 8 := by omega
    subst hi8
    exact c_exit (eT (by simp) (eT (by simp) (e_hit (end0 rfl ⟨by rw [comp, ← hV]; exact Bgh, E⟩))))
end Go.Proofs.YtknndpjacklkeaaGreatDoor.V

set_option linter.unusedVariables false
set_option linter.unusedSimpArgs false
set_option maxRecDepth 10000
namespace Go.Proofs.YtknndpjacklkeaaGreatDoor.V
open Go Go.Proofs
theorem pl184 : plB Tryz.prog 184 [(0, 8), (8, 1), (9, 1)] = true := by kernel_rfl
theorem zv184 : zvB Tryz.prog 184 ([.int .u32 0, .int .u32 0, .int .u32 0, .int .u32 0, .int .u32 0, .int .u32 0, .int .u32 0, .int .u32 0, .slice none 0 0, .int .u64 0]) := by unfold zvB; kernel_rfl
theorem fd184_2 : fdB Tryz.prog 184 2 9 1 = true := by kernel_rfl
theorem sc182 : scB Tryz.prog 182 = true := by kernel_rfl
theorem fd184_1 : fdB Tryz.prog 184 1 8 1 = true := by kernel_rfl
theorem ent172 : Ent Tryz.prog 172 := Ent.of Tryz.func172 (by kernel_rfl) (by kernel_rfl)
theorem c_dNew (w : World) : Calls Tryz.prog 130 [].toArray w (Ret fun u w' => ∃ gh, u = .pointer (some ⟨gh, 0, none⟩) ∧ Blk w' gh 184 (s8of.cells ++ [.slice none 0 0, .int .u64 0]) ∧ w.heap.size ≤ gh ∧ Mod [] w w') := by
 refine enter Tryz.func130 rfl rfl rfl (l := []) trivial ?_
 have E := Mod.refl [] w
 refine Cq fun K1 hK1 => Cr (Za rfl (Ln (e_K (hK1 _ _ _ _ (Cq fun K2 hK2 => Cr (Sv (o_builda (cs := [_, _, _, _, _, _, _, _]) ar181 zv181 rfl rfl) (Sv (o_build (cs := [_, _, _, _, _, _, _, _, _, _]) pl184 zv184 rfl rfl) (s_box rfl rfl rfl fun g1 w1 N1 => ?_))))))))
 have Lg1_E := N1.le E
 replace E := E.then N1.mod
 have Bg1 := N1.blk
 exact Za rfl (Ln (e_K (hK2 _ _ _ _ (cR (ret1 rfl rfl ⟨_, rfl, Bg1, Lg1_E, E⟩)))))

theorem c_dWrite (A : List Nat) (w : World) (s : S8) (wt b : List UInt8) (n : Int) (gh : Nat) (wv v1 : Value) (Bgh : Blk w gh 184 [W4 s.a, W4 s.b, W4 s.c, W4 s.d, W4 s.e, W4 s.f, W4 s.g, W4 s.h, wv, .int .u64 n]) (Ow : Own w 5 1 wv wt.length ((wt.map bcells).flatten)) (Dw : ∀ x ∈ ob wv, x ≠ gh) (D0 : ∀ x ∈ ob wv, x ≠ gD) (hT : Cs w ⟨gD, 0, none⟩ (numsK.map W4)) (h0 : gh ≠ gD) (Rb : Rep A w (byD b) v1) (hA : ∀ x ∈ gh :: ob wv, x ∈ A) (hl : wt.length + b.length ≤ 1000000) (hn : 0 ≤ n ∧ n ≤ 1000000) (hgt : gh < w.heap.size) : Calls Tryz.prog 131 [.pointer (some ⟨gh, 0, none⟩), v1].toArray w (Ret fun _ w' => ∃ k wv', (wt ++ b).length < 64 * k + 64 ∧ 64 * k ≤ (wt ++ b).length ∧ Blk w' gh 184 ((abs64 s (wt ++ b) k).cells ++ [wv', .int .u64 (n + b.length)]) ∧ Own w' 5 1 wv' ((wt ++ b).length - 64 * k) ((((wt ++ b).drop (64 * k)).map bcells).flatten) ∧ (∀ x ∈ ob wv', x ≠ gh) ∧ (∀ x ∈ ob wv', x ∈ ob wv ∨ w.heap.size ≤ x) ∧ Mod (gh :: ob wv) w w') := by
 refine enter Tryz.func131 rfl rfl rfl (l := [(0, _), (1, _)]) ⟨rfl, rfl, trivial⟩ ?_
 have E := Mod.refl (gh :: ob wv) w
 obtain ⟨adb, cb, rfl, hb1, hb2⟩ := flat_len Rb
 have h0m : gD ∉ gh :: ob wv := by
  intro h
  rcases List.mem_cons.1 h with h | h
  ·exact h0 h.symm
  ·exact D0 gD h rfl
 refine Cq fun K1 hK1 => Cq fun K2 hK2 => Cr (Zm rfl (Sv (o_peq Tryz.underlying140 rfl rfl) (Ln (e_K (hK2 _ _ _ _ (c_false rfl (cK (e_K (hK1 _ _ _ _ (Cq fun K3 hK3 => Cr (tW 2 rfl (Sv (oA0 fd184_2 rfl) ?_))))))))))))
 refine Sv (oL sc182 rfl (Bgh.cell rfl)) (Zm rfl (Sv (o_len Tryz.underlying74 rfl) (Sv (o_convE (r := (b.length : Int)) Tryz.underlying3 Tryz.underlying182 rfl (wrapu64_in _ (by omega))) (Sv (o_addE (r := n + b.length) rfl rfl (wrapu64_in _ (by omega))) (Sv (o_nilc rfl) (Sv (oA0 fd184_2 rfl) (s_st sc182 Bgh rfl rfl rfl (by simp) fun w1 P1 => ?_)))))))
 replace Ow := Ow.put P1.mod Dw
 replace Bgh : Blk w1 gh _ [_, _, _, _, _, _, _, _, _, _] := P1.blk
 replace E := E.trans' P1.mod (fun x hx => .inl (by simp at hx; simp [hx]))
 refine Ln (e_K (hK3 _ _ _ _ (Cq fun K4 hK4 => Cr (tW 3 rfl (Sv (oA0 fd184_1 rfl) (Sv (oL sc74 rfl (Bgh.cell rfl)) (Zm rfl ?_)))))))
 have hsz0 := E.size
 refine s_append sl74 rfl rfl Ow (Src.flat Tryz.underlying74 (Rb.toM E hA)) (by decide) (by omega) (by omega) rfl fun v1 w2 A1 => ?_
 have Dv1_gh := A1.ne Dw Bgh
 replace Bgh := Bgh.mod A1.mod (fun hx => Dw _ hx rfl)
 replace Ow := A1.own
 obtain ⟨adv, cv, rfl, hv1, hv2⟩ := Ow.form
 have hob : ∀ x ∈ ob (.slice adv (wt.length + b.length) cv), x ∈ ob wv ∨ w.heap.size ≤ x := fun x hx => (A1.ob_ x hx).elim .inl (fun h => .inr (Nat.le_trans hsz0 h))
 replace E := E.trans' A1.mod (fun x hx => .inl (by simp [hx]))
 refine Sv (o_nilc rfl) (Sv (oA0 fd184_1 rfl) (s_st sc74 Bgh rfl rfl rfl (by simp) fun w3 P3 => ?_))
 replace Ow := Ow.put P3.mod Dv1_gh
 replace Bgh : Blk w3 gh _ [_, _, _, _, _, _, _, _, _, _] := P3.blk
 replace E := E.trans' P3.mod (fun x hx => .inl (by simp at hx; simp [hx]))
 refine Ln (e_K (hK4 _ _ _ _ (cB (c_loop (σ := Nat × Value) (fun ⟨k, v⟩ => [(0, .pointer (some ⟨gh, 0, none⟩))]) (fun ⟨k, v⟩ w1 => 64 * k ≤ (wt ++ b).length ∧ Blk w1 gh 184 ((abs64 s (wt ++ b) k).cells ++ [v, .int .u64 (n + b.length)]) ∧ Own w1 5 1 v ((wt ++ b).length - 64 * k) ((((wt ++ b).drop (64 * k)).map bcells).flatten) ∧ (∀ x ∈ ob v, x ≠ gh) ∧ (∀ x ∈ ob v, x ∈ ob wv ∨ w.heap.size ≤ x) ∧ Mod (gh :: ob wv) w w1) (fun ⟨k, v⟩ => (wt ++ b).length - 64 * k) (⟨0, .slice adv (wt.length + b.length) cv⟩) ⟨rfl, trivial⟩ (⟨by omega, Bgh, Ow.as (by simp) (by simp), Dv1_gh, hob, E⟩) ?_))))
 rintro ⟨k, v⟩ w4 ⟨hk, Bgh, Ow, Dw2, hob, E⟩
 obtain ⟨adv, cv, rfl, hv1, hv2⟩ := Ow.form
 have hll : (wt ++ b).length = wt.length + b.length := List.length_append
 refine Cq fun K5 hK5 => Cq fun K6 hK6 => Cr (tW 2 rfl (Sv (oA0 fd184_1 rfl) (Sv (oL sc74 rfl (Bgh.cell rfl)) (Sv (o_len Tryz.underlying74 rfl) (Sv (o_geq rfl rfl) (Ln (e_K (hK6 _ _ _ _ ?_))))))))
 refine c_if rfl (fun h30 => ?_) (fun h30 => ?_)
 ·refine cK (e_K (hK5 _ _ _ _ (cB (Cq fun K7 hK7 => Cr (tW 3 rfl (Sv (oA0 fd184_1 rfl) (Sv (oL sc74 rfl (Bgh.cell rfl)) ?_)))))))
  have RW := Own.byts [gh] Ow (by rw [List.length_drop]) (fun x hx => by simpa using Dw2 x hx)
  refine sc (oC ent172 rfl) (c_blk64 [gh] _ (abs64 s (wt ++ b) k) ((wt ++ b).drop (64 * k)) gh _ _ _ Bgh (hT.mod E h0m) h0 RW (by simp) (by rw [List.length_drop]; omega)) rfl fun v_ w5 h_ => ?_
  obtain ⟨Bgh2, Eb⟩ := h_
  clear Bgh
  have Bgh := Bgh2
  replace Ow := Ow.put Eb Dw2
  replace E := E.trans' Eb (fun x hx => .inl (by simp at hx; simp [hx]))
  refine Ln (e_K (hK7 _ _ _ _ (Cr (tW 3 rfl (Sv (oA0 fd184_1 rfl) (Sv (oL sc74 rfl (Bgh.cell rfl)) (Sv (o_slfrom (lo := 64) sl74 rfl rfl (by omega) (by omega)) (Sv (o_nilc rfl) (Sv (oA0 fd184_1 rfl) (s_st sc74 Bgh rfl rfl rfl (by simp) fun w6 P6 => ?_))))))))))
  replace Ow := Ow.put P6.mod Dw2
  replace Bgh : Blk w6 gh _ [_, _, _, _, _, _, _, _, _, _] := P6.blk
  replace E := E.trans' P6.mod (fun x hx => .inl (by simp at hx; simp [hx]))
  exact Ln (eI (by simp) (eR (σ := Nat × Value) (s := ⟨k, .slice adv ((wt ++ b).length - 64 * k) cv⟩) (⟨k + 1, .slice (adS adv cv 64 1) ((wt ++ b).length - 64 * k - 64) (cv - 64)⟩) ⟨rfl, trivial⟩ ⟨by omega, Bgh, (Own.drop64 Ow (by omega)).as (by omega) rfl, fun x hx => Dw2 x (ob_adS x hx), fun x hx => hob x (ob_adS x hx), E⟩ (by dsimp only; omega)))
 ·exact c_exit (eT (by simp) (eT (by simp) (e_hit (end0 rfl ⟨k, _, by omega, hk, Bgh, Ow, Dw2, hob, E⟩))))
end Go.Proofs.YtknndpjacklkeaaGreatDoor.V
