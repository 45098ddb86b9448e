/-
  A part of the proof: walks of functions, and the plain laws of what they compute. No condition of its own.
-/
import Derived.Test.YtccjjkdogljmpaaDoorD1
set_option linter.unusedVariables false
set_option linter.unusedSimpArgs false
set_option maxRecDepth 10000
namespace Go.Proofs.YtccjjkdogljmpaaDoor.V
open Go Go.Proofs
theorem wide : Tryd.prog.follows .mixedOrders = true := by kernel_rfl
theorem sc44 : scB Tryd.prog 44 = true := by kernel_rfl
theorem ent27 : Ent Tryd.prog 27 := Ent.of Tryd.func27 (by kernel_rfl) (by kernel_rfl)
theorem c_next (A : List Nat) (w : World) (s : S8) (b : List UInt8) (v0 v1 v2 : Value) (R : Rep A w (woD s.list) v0) (Rb : Rep A w (byD b) v1) (Rk : Rep A w (woD numsK) v2) (hb : 64 ≤ b.length) : Calls Tryd.prog 19 [v0, v1, v2].toArray w (Ret fun u w' => Own w' 44 1 u 8 (comp s b).cells ∧ (∀ x ∈ ob u, w.heap.size ≤ x) ∧ Mod [] w w') := by
  refine enter Tryd.func19 rfl rfl rfl (l := [(0, _), (1, _), (2, _)]) ⟨rfl, rfl, rfl, trivial⟩ ?_
  have E := Mod.refl [] w
  obtain ⟨ads, cs_, rfl, hs1, hs2⟩ := flat_len R
  obtain ⟨adk, ck, rfl, hk1, hk2⟩ := flat_len Rk
  obtain ⟨adb, cb, rfl, hb1, hb2⟩ := flat_len Rb
  obtain ⟨as_, has_, _, _⟩ := flat_at (i := 0) R rfl
  subst has_
  obtain ⟨ak_, hak_, _, _⟩ := flat_at (i := 0) Rk rfl
  subst hak_
  refine c_seq fun K1 hK1 => ?_
  refine c_region ?_
  refine sv (o_as rfl) rfl ?_
  refine l_nil ?_
  refine e_K (hK1 _ _ _ _ ?_)
  refine c_seq fun K2 hK2 => ?_
  refine c_region ?_
  refine sv (o_as rfl) rfl ?_
  refine l_nil ?_
  refine e_K (hK2 _ _ _ _ ?_)
  refine c_seq fun K3 hK3 => ?_
  refine c_seq fun K4 hK4 => ?_
  refine c_region ?_
  refine sv (o_as rfl) rfl ?_
  refine l_nil ?_
  refine e_K (hK4 _ _ _ _ ?_)
  refine c_block ?_
  refine c_loop (σ := Nat × Value) (fun ⟨i, v⟩ => [(0, .slice (some as_) 8 cs_), (1, .slice adb b.length cb), (2, .slice (some ak_) 64 ck), (7, v), (8, .int .i64 (i : Int))]) (fun ⟨i, v⟩ w1 => i ≤ 16 ∧ Own w1 44 1 v i (((sch b i).map wcells).flatten) ∧ (∀ x ∈ ob v, w.heap.size ≤ x) ∧ Mod [] w w1) (fun ⟨i, v⟩ => 16 - i) (⟨0, .slice none 0 0⟩) ⟨rfl, rfl, rfl, rfl, rfl, trivial⟩ (⟨by omega, Own.nil _ 44 1, by simp [ob], E⟩) ?_
  rintro ⟨i, v⟩ w1 ⟨hi, Ow, Lw, E⟩
  refine c_seq fun K5 hK5 => ?_
  refine c_seq fun K6 hK6 => ?_
  refine c_region ?_
  refine sv (o_mv rfl) rfl ?_
  refine sv (o_lss rfl rfl) rfl ?_
  refine l_nil ?_
  refine e_K (hK6 _ _ _ _ ?_)
  refine c_if rfl (fun h28 => ?_) (fun h28 => ?_)
  · skip
    have hlt16 : i < 16 := by omega
    refine c_skip ?_
    refine e_K (hK5 _ _ _ _ ?_)
    refine c_seq fun K7 hK7 => ?_
    refine c_block ?_
    refine c_seq fun K8 hK8 => ?_
    refine c_region ?_
    refine sv (o_as rfl) rfl ?_
    refine l_nil ?_
    refine e_K (hK8 _ _ _ _ ?_)
    refine c_seq fun K9 hK9 => ?_
    refine c_seq fun K10 hK10 => ?_
    refine c_region ?_
    refine sv (o_as rfl) rfl ?_
    refine l_nil ?_
    refine e_K (hK10 _ _ _ _ ?_)
    refine c_block ?_
    refine c_loop (σ := Nat) (fun j => [(0, .slice (some as_) 8 cs_), (1, .slice adb b.length cb), (2, .slice (some ak_) 64 ck), (7, v), (8, .int .i64 (i : Int)), (9, W4 (wordOf ((b.drop (4 * i)).take j))), (10, .int .i64 (j : Int))]) (fun j w1 => j ≤ 4 ∧ Own w1 44 1 v i (((sch b i).map wcells).flatten) ∧ (∀ x ∈ ob v, w.heap.size ≤ x) ∧ Mod [] w w1) (fun j => 4 - j) (0) ⟨rfl, rfl, rfl, rfl, rfl, rfl, rfl, trivial⟩ (⟨by omega, Ow, Lw, E⟩) ?_
    rintro j w2 ⟨hj, Ow, Lw, E⟩
    refine c_seq fun K11 hK11 => ?_
    refine c_seq fun K12 hK12 => ?_
    refine c_region ?_
    refine sv (o_mv rfl) rfl ?_
    refine sv (o_lss rfl rfl) rfl ?_
    refine l_nil ?_
    refine e_K (hK12 _ _ _ _ ?_)
    refine c_if rfl (fun h32 => ?_) (fun h32 => ?_)
    · skip
      have hltj : j < 4 := by omega
      obtain ⟨x, hx_x⟩ : ∃ x, b[4 * i + j]? = some x := ⟨_, List.getElem?_eq_getElem (by omega)⟩
      obtain ⟨a_x, ha_x, hcs_x, _⟩ := flat_at (Rb.to0 E) hx_x
      have hx_d : (b.drop (4 * i))[j]? = some x := by rw [List.getElem?_drop]; exact hx_x
      subst ha_x
      refine c_skip ?_
      refine e_K (hK11 _ _ _ _ ?_)
      refine c_seq fun K13 hK13 => ?_
      refine c_block ?_
      refine c_region ?_
      refine sv (o_mv rfl) rfl ?_
      refine sv (o_mul4 (b := 256) rfl rfl) rfl ?_
      refine sv (o_mv rfl) rfl ?_
      refine sv (o_mv rfl) rfl ?_
      refine sv (o_mulN rfl rfl (by omega)) rfl ?_
      refine sv (o_mv rfl) rfl ?_
      refine sv (o_addE (r := ((4 * i + j : Nat) : Int)) rfl rfl (by rw [wrap64_in _ (by omega)]; omega)) rfl ?_
      refine sv (o_ix sl22 rfl rfl (by omega)) rfl ?_
      refine sv (o_ld sc5 rfl hcs_x.first) rfl ?_
      refine sv (o_conv84 Tryd.underlying5 Tryd.underlying44 rfl) rfl ?_
      refine sv (o_add4 rfl rfl) rfl ?_
      refine sv (o_as rfl) rfl ?_
      refine l_nil ?_
      refine e_in (by simp) ?_
      refine e_K (hK13 _ _ _ _ ?_)
      refine c_region ?_
      refine sv (o_mv rfl) rfl ?_
      refine sv (o_addN rfl rfl (by omega)) rfl ?_
      refine sv (o_as rfl) rfl ?_
      refine l_nil ?_
      rw [← shl_or, ← wordOf_succ hx_d]
      exact e_round (σ := Nat) (s := j) (j + 1) ⟨rfl, rfl, rfl, rfl, rfl, rfl, rfl, trivial⟩ ⟨by omega, Ow, Lw, E⟩ (by omega)
    · skip
      have hj4 : j = 4 := by omega
      subst hj4
      refine c_exit ?_
      refine e_then (by simp) ?_
      refine e_then (by simp) ?_
      refine e_hit ?_
      refine e_K (hK9 _ _ _ _ ?_)
      refine c_region ?_
      refine sv (o_mv rfl) rfl ?_
      refine sv (o_mv rfl) rfl ?_
      refine s_bslice (cs := [_]) sl45 zv44 rfl rfl rfl (by decide) rfl fun g1 w3 N1 => ?_
      have Lg1_E := N1.le E
      have Dow_g1 := N1.own_ne Ow
      replace E := E.then N1.mod
      replace Ow := Ow.mod0 N1.mod
      have Bg1 := N1.blk
      refine s_append sl45 rfl rfl Ow (Src.own Tryd.underlying45 (Own.all (cs := [_]) Bg1 rfl (by omega)) (by simp [W4, Value.oneCell'])) (by decide) (by omega) (by omega) rfl fun v1 w4 A1 => ?_
      have Dv1_g1 := A1.ne Dow_g1 Bg1
      have Lv1_E := A1.ge Lw E
      replace Bg1 := Bg1.mod A1.mod (fun hx => Dow_g1 _ hx rfl)
      replace E := E.trans' A1.mod (fun x hx => .inr (Lw x hx))
      replace Ow := A1.own
      refine sv (o_as rfl) rfl ?_
      refine l_nil ?_
      refine e_in (by simp) ?_
      refine e_K (hK7 _ _ _ _ ?_)
      refine c_region ?_
      refine sv (o_mv rfl) rfl ?_
      refine sv (o_addN rfl rfl (by omega)) rfl ?_
      refine sv (o_as rfl) rfl ?_
      refine l_nil ?_
      exact e_round (σ := Nat × Value) (s := ⟨i, v⟩) (⟨i + 1, v1⟩) ⟨rfl, rfl, rfl, rfl, rfl, trivial⟩ ⟨by omega, Ow.wsnoc (by rw [if_pos hlt16]), Lv1_E, E⟩ (by dsimp only; omega)
  · skip
    have hi16 : i = 16 := by omega
    subst hi16
    refine c_exit ?_
    refine e_then (by simp) ?_
    refine e_then (by simp) ?_
    refine e_hit ?_
    refine e_K (hK3 _ _ _ _ ?_)
    refine c_seq fun K14 hK14 => ?_
    refine c_seq fun K15 hK15 => ?_
    refine c_region ?_
    refine sv (o_as rfl) rfl ?_
    refine l_nil ?_
    refine e_K (hK15 _ _ _ _ ?_)
    refine c_block ?_
    refine c_loop (σ := Nat × Value) (fun ⟨i, v⟩ => [(0, .slice (some as_) 8 cs_), (1, .slice adb b.length cb), (2, .slice (some ak_) 64 ck), (7, v), (11, .int .i64 (i : Int))]) (fun ⟨i, v⟩ w1 => 16 ≤ i ∧ i ≤ 64 ∧ Own w1 44 1 v i (((sch b i).map wcells).flatten) ∧ (∀ x ∈ ob v, w.heap.size ≤ x) ∧ Mod [] w w1) (fun ⟨i, v⟩ => 64 - i) (⟨16, v⟩) ⟨rfl, rfl, rfl, rfl, rfl, trivial⟩ (⟨by omega, by omega, Ow, Lw, E⟩) ?_
    rintro ⟨i, v⟩ w5 ⟨hi0, hi, Ow, Lw, E⟩
    refine c_seq fun K16 hK16 => ?_
    refine c_seq fun K17 hK17 => ?_
    refine c_region ?_
    refine sv (o_mv rfl) rfl ?_
    refine sv (o_lss rfl rfl) rfl ?_
    refine l_nil ?_
    refine e_K (hK17 _ _ _ _ ?_)
    refine c_if rfl (fun h51 => ?_) (fun h51 => ?_)
    · skip
      obtain ⟨adw, cw, rfl⟩ : ∃ a c, v = .slice (some a) i c := by
        rcases Ow.2 with ⟨h0, h1⟩ | ⟨g_, o_, c_, cs_, h0, _⟩
        · omega
        · exact ⟨_, _, h0⟩
      obtain ⟨_, _, hw0, hw1, hw2⟩ := Ow.form
      injection hw0 with _ _ hw0
      subst hw0
      have hlt64 : i < 64 := by omega
      have RO_x15 := Ow.words (sch_len b _)
      obtain ⟨a_x15, ha_x15, hcs_x15, _⟩ := flat_at (cells := wcells) (xs := (sch b i)) (i := i - 15) RO_x15 (at32_get (by rw [sch_len]; omega))
      injection ha_x15 with ha_x15
      subst ha_x15
      have RO_x2 := Ow.words (sch_len b _)
      obtain ⟨a_x2, ha_x2, hcs_x2, _⟩ := flat_at (cells := wcells) (xs := (sch b i)) (i := i - 2) RO_x2 (at32_get (by rw [sch_len]; omega))
      injection ha_x2 with ha_x2
      subst ha_x2
      refine c_skip ?_
      refine e_K (hK16 _ _ _ _ ?_)
      refine c_seq fun K18 hK18 => ?_
      refine c_block ?_
      refine c_seq fun K19 hK19 => ?_
      refine c_draw wide (by kernel_rfl) ?_
      refine tv (fun w_ E_ => (o_mv rfl)) rfl rfl ?_
      refine tv (fun w_ E_ => (o_mv rfl)) rfl rfl ?_
      refine tv (fun w_ E_ => (o_subE (r := ((i - 15 : Nat) : Int)) rfl rfl (by rw [wrap64_in _ (by omega)]; omega))) rfl rfl ?_
      refine tv (fun w_ E_ => (o_ix sl45 rfl rfl (by omega))) rfl rfl ?_
      refine tv (fun w_ E_ => (o_ld sc44 rfl (hcs_x15.mod0 E_).first)) rfl rfl ?_
      refine tv (fun w_ E_ => (o_mv rfl)) rfl rfl ?_
      refine tv (fun w_ E_ => (o_mv rfl)) rfl rfl ?_
      refine tv (fun w_ E_ => (o_subE (r := ((i - 2 : Nat) : Int)) rfl rfl (by rw [wrap64_in _ (by omega)]; omega))) rfl rfl ?_
      refine tv (fun w_ E_ => (o_ix sl45 rfl rfl (by omega))) rfl rfl ?_
      refine tv (fun w_ E_ => (o_ld sc44 rfl (hcs_x2.mod0 E_).first)) rfl rfl ?_
      refine tv (fun w_ E_ => (o_as rfl)) rfl rfl ?_
      refine tv (fun w_ E_ => (o_as rfl)) rfl rfl ?_
      refine tw_nil rfl fun w6 E_ => ?_
      replace E := E.then E_
      replace Ow := Ow.mod0 E_
      refine e_K (hK19 _ _ _ _ ?_)
      refine c_seq fun K20 hK20 => ?_
      refine c_region ?_
      refine sv (o_mv rfl) rfl ?_
      refine sc (o_call ent26 rfl) (c_turn _ _ 7 (by decide)) rfl fun v_ w7 h_ => ?_
      obtain ⟨rfl, E_⟩ := h_
      replace E := E.then E_
      replace Ow := Ow.mod0 E_
      refine sv (o_mv rfl) rfl ?_
      refine sc (o_call ent26 rfl) (c_turn _ _ 18 (by decide)) rfl fun v_ w8 h_ => ?_
      obtain ⟨rfl, E_⟩ := h_
      replace E := E.then E_
      replace Ow := Ow.mod0 E_
      refine sv (o_xor4 rfl rfl) rfl ?_
      refine sv (o_mv rfl) rfl ?_
      refine sv (o_shr4 (m := 3) rfl rfl (by decide)) rfl ?_
      refine sv (o_xor4 rfl rfl) rfl ?_
      refine sv (o_as rfl) rfl ?_
      refine l_nil ?_
      refine e_K (hK20 _ _ _ _ ?_)
      refine c_seq fun K21 hK21 => ?_
      refine c_region ?_
      refine sv (o_mv rfl) rfl ?_
      refine sc (o_call ent26 rfl) (c_turn _ _ 17 (by decide)) rfl fun v_ w9 h_ => ?_
      obtain ⟨rfl, E_⟩ := h_
      replace E := E.then E_
      replace Ow := Ow.mod0 E_
      refine sv (o_mv rfl) rfl ?_
      refine sc (o_call ent26 rfl) (c_turn _ _ 19 (by decide)) rfl fun v_ w10 h_ => ?_
      obtain ⟨rfl, E_⟩ := h_
      replace E := E.then E_
      replace Ow := Ow.mod0 E_
      refine sv (o_xor4 rfl rfl) rfl ?_
      refine sv (o_mv rfl) rfl ?_
      refine sv (o_shr4 (m := 10) rfl rfl (by decide)) rfl ?_
      refine sv (o_xor4 rfl rfl) rfl ?_
      refine sv (o_as rfl) rfl ?_
      refine l_nil ?_
      refine e_K (hK21 _ _ _ _ ?_)
      have RO_x16 := Ow.words (sch_len b _)
      obtain ⟨a_x16, ha_x16, hcs_x16, _⟩ := flat_at (cells := wcells) (xs := (sch b i)) (i := i - 16) RO_x16 (at32_get (by rw [sch_len]; omega))
      injection ha_x16 with ha_x16
      subst ha_x16
      have RO_x7 := Ow.words (sch_len b _)
      obtain ⟨a_x7, ha_x7, hcs_x7, _⟩ := flat_at (cells := wcells) (xs := (sch b i)) (i := i - 7) RO_x7 (at32_get (by rw [sch_len]; omega))
      injection ha_x7 with ha_x7
      subst ha_x7
      refine c_drawp [0] [1, 2, 3, 4, 5, 6, 7, 8, 9, 10, 11, 12, 13, 14, 15] 16 [17, 18] wide (by kernel_rfl) (fun _ _ _ h => h.2) ?_
      refine pw (fun _ => (o_mv rfl)) rfl rfl ?_
      refine pw_nil ?_
      refine tv (fun w_ E_ => (o_mv rfl)) rfl rfl ?_
      refine tv (fun w_ E_ => (o_mv rfl)) rfl rfl ?_
      refine tv (fun w_ E_ => (o_subE (r := ((i - 16 : Nat) : Int)) rfl rfl (by rw [wrap64_in _ (by omega)]; omega))) rfl rfl ?_
      refine tv (fun w_ E_ => (o_ix sl45 rfl rfl (by omega))) rfl rfl ?_
      refine tv (fun w_ E_ => (o_ld sc44 rfl (hcs_x16.mod0 E_).first)) rfl rfl ?_
      refine tv (fun w_ E_ => (o_mv rfl)) rfl rfl ?_
      refine tv (fun w_ E_ => (o_add4 rfl rfl)) rfl rfl ?_
      refine tv (fun w_ E_ => (o_mv rfl)) rfl rfl ?_
      refine tv (fun w_ E_ => (o_mv rfl)) rfl rfl ?_
      refine tv (fun w_ E_ => (o_subE (r := ((i - 7 : Nat) : Int)) rfl rfl (by rw [wrap64_in _ (by omega)]; omega))) rfl rfl ?_
      refine tv (fun w_ E_ => (o_ix sl45 rfl rfl (by omega))) rfl rfl ?_
      refine tv (fun w_ E_ => (o_ld sc44 rfl (hcs_x7.mod0 E_).first)) rfl rfl ?_
      refine tv (fun w_ E_ => (o_add4 rfl rfl)) rfl rfl ?_
      refine tv (fun w_ E_ => (o_mv rfl)) rfl rfl ?_
      refine tv (fun w_ E_ => (o_add4 rfl rfl)) rfl rfl ?_
      refine tw_tail rfl fun w11 E_ => ?_
      replace E := E.then E_
      replace Ow := Ow.mod0 E_
      refine s_bslice (cs := [_]) sl45 zv44 rfl rfl rfl (by decide) rfl fun g2 w12 N2 => ?_
      have Lg2_E := N2.le E
      have Dow_g2 := N2.own_ne Ow
      replace E := E.then N2.mod
      replace Ow := Ow.mod0 N2.mod
      have Bg2 := N2.blk
      refine s_append sl45 rfl rfl Ow (Src.own Tryd.underlying45 (Own.all (cs := [_]) Bg2 rfl (by omega)) (by simp [W4, Value.oneCell'])) (by decide) (by omega) (by omega) rfl fun v2 w13 A2 => ?_
      have Dv2_g2 := A2.ne Dow_g2 Bg2
      have Lv2_E := A2.ge Lw E
      replace Bg2 := Bg2.mod A2.mod (fun hx => Dow_g2 _ hx rfl)
      replace E := E.trans' A2.mod (fun x hx => .inr (Lw x hx))
      replace Ow := A2.own
      refine sv (o_as rfl) rfl ?_
      refine l_nil ?_
      refine e_in (by simp) ?_
      refine e_K (hK18 _ _ _ _ ?_)
      refine c_region ?_
      refine sv (o_mv rfl) rfl ?_
      refine sv (o_addN rfl rfl (by omega)) rfl ?_
      refine sv (o_as rfl) rfl ?_
      refine l_nil ?_
      exact e_round (σ := Nat × Value) (s := ⟨i, v⟩) (⟨i + 1, v2⟩) ⟨rfl, rfl, rfl, rfl, rfl, trivial⟩ ⟨by omega, by omega, Ow.wsnoc (by rw [if_neg (by omega)]; rfl), Lv2_E, E⟩ (by dsimp only; omega)
    · skip
      have hi64 : i = 64 := by omega
      subst hi64
      obtain ⟨adw, cw, rfl⟩ : ∃ a c, v = .slice (some a) 64 c := by
        rcases Ow.2 with ⟨h0, h1⟩ | ⟨g_, o_, c_, cs_, h0, _⟩
        · omega
        · exact ⟨_, _, h0⟩
      obtain ⟨_, _, hw0, hw1, hw2⟩ := Ow.form
      injection hw0 with _ _ hw0
      subst hw0
      obtain ⟨a_s0, ha_s0, hcs_s0, _⟩ := flat_at (i := 0) (R.to0 E) rfl
      injection ha_s0 with ha_s0
      subst ha_s0
      obtain ⟨a_s1, ha_s1, hcs_s1, _⟩ := flat_at (i := 1) (R.to0 E) rfl
      injection ha_s1 with ha_s1
      subst ha_s1
      obtain ⟨a_s2, ha_s2, hcs_s2, _⟩ := flat_at (i := 2) (R.to0 E) rfl
      injection ha_s2 with ha_s2
      subst ha_s2
      obtain ⟨a_s3, ha_s3, hcs_s3, _⟩ := flat_at (i := 3) (R.to0 E) rfl
      injection ha_s3 with ha_s3
      subst ha_s3
      obtain ⟨a_s4, ha_s4, hcs_s4, _⟩ := flat_at (i := 4) (R.to0 E) rfl
      injection ha_s4 with ha_s4
      subst ha_s4
      obtain ⟨a_s5, ha_s5, hcs_s5, _⟩ := flat_at (i := 5) (R.to0 E) rfl
      injection ha_s5 with ha_s5
      subst ha_s5
      obtain ⟨a_s6, ha_s6, hcs_s6, _⟩ := flat_at (i := 6) (R.to0 E) rfl
      injection ha_s6 with ha_s6
      subst ha_s6
      obtain ⟨a_s7, ha_s7, hcs_s7, _⟩ := flat_at (i := 7) (R.to0 E) rfl
      injection ha_s7 with ha_s7
      subst ha_s7
      refine c_exit ?_
      refine e_then (by simp) ?_
      refine e_then (by simp) ?_
      refine e_hit ?_
      refine e_K (hK14 _ _ _ _ ?_)
      refine c_seq fun K22 hK22 => ?_
      refine c_draw wide (by kernel_rfl) ?_
      refine tv (fun w_ E_ => (o_mv rfl)) rfl rfl ?_
      refine tv (fun w_ E_ => (o_ix sl45 rfl rfl (by omega))) rfl rfl ?_
      refine tv (fun w_ E_ => (o_ld sc44 rfl (hcs_s0.mod0 E_).first)) rfl rfl ?_
      refine tv (fun w_ E_ => (o_mv rfl)) rfl rfl ?_
      refine tv (fun w_ E_ => (o_ix sl45 rfl rfl (by omega))) rfl rfl ?_
      refine tv (fun w_ E_ => (o_ld sc44 rfl (hcs_s1.mod0 E_).first)) rfl rfl ?_
      refine tv (fun w_ E_ => (o_mv rfl)) rfl rfl ?_
      refine tv (fun w_ E_ => (o_ix sl45 rfl rfl (by omega))) rfl rfl ?_
      refine tv (fun w_ E_ => (o_ld sc44 rfl (hcs_s2.mod0 E_).first)) rfl rfl ?_
      refine tv (fun w_ E_ => (o_mv rfl)) rfl rfl ?_
      refine tv (fun w_ E_ => (o_ix sl45 rfl rfl (by omega))) rfl rfl ?_
      refine tv (fun w_ E_ => (o_ld sc44 rfl (hcs_s3.mod0 E_).first)) rfl rfl ?_
      refine tv (fun w_ E_ => (o_mv rfl)) rfl rfl ?_
      refine tv (fun w_ E_ => (o_ix sl45 rfl rfl (by omega))) rfl rfl ?_
      refine tv (fun w_ E_ => (o_ld sc44 rfl (hcs_s4.mod0 E_).first)) rfl rfl ?_
      refine tv (fun w_ E_ => (o_mv rfl)) rfl rfl ?_
      refine tv (fun w_ E_ => (o_ix sl45 rfl rfl (by omega))) rfl rfl ?_
      refine tv (fun w_ E_ => (o_ld sc44 rfl (hcs_s5.mod0 E_).first)) rfl rfl ?_
      refine tv (fun w_ E_ => (o_mv rfl)) rfl rfl ?_
      refine tv (fun w_ E_ => (o_ix sl45 rfl rfl (by omega))) rfl rfl ?_
      refine tv (fun w_ E_ => (o_ld sc44 rfl (hcs_s6.mod0 E_).first)) rfl rfl ?_
      refine tv (fun w_ E_ => (o_mv rfl)) rfl rfl ?_
      refine tv (fun w_ E_ => (o_ix sl45 rfl rfl (by omega))) rfl rfl ?_
      refine tv (fun w_ E_ => (o_ld sc44 rfl (hcs_s7.mod0 E_).first)) rfl rfl ?_
      refine tv (fun w_ E_ => (o_as rfl)) rfl rfl ?_
      refine tv (fun w_ E_ => (o_as rfl)) rfl rfl ?_
      refine tv (fun w_ E_ => (o_as rfl)) rfl rfl ?_
      refine tv (fun w_ E_ => (o_as rfl)) rfl rfl ?_
      refine tv (fun w_ E_ => (o_as rfl)) rfl rfl ?_
      refine tv (fun w_ E_ => (o_as rfl)) rfl rfl ?_
      refine tv (fun w_ E_ => (o_as rfl)) rfl rfl ?_
      refine tv (fun w_ E_ => (o_as rfl)) rfl rfl ?_
      refine tw_nil rfl fun w14 E_ => ?_
      replace E := E.then E_
      replace Ow := Ow.mod0 E_
      refine e_K (hK22 _ _ _ _ ?_)
      refine c_seq fun K23 hK23 => ?_
      refine c_seq fun K24 hK24 => ?_
      refine c_region ?_
      refine sv (o_as rfl) rfl ?_
      refine l_nil ?_
      refine e_K (hK24 _ _ _ _ ?_)
      refine c_block ?_
      refine c_loop (σ := Nat) (fun i => [(0, .slice (some as_) 8 cs_), (2, .slice (some ak_) 64 ck), (7, .slice (some adw) 64 cw), (24, .int .i64 (i : Int)), (16, W4 (rnds numsK (sch b 64) s i).a), (17, W4 (rnds numsK (sch b 64) s i).b), (18, W4 (rnds numsK (sch b 64) s i).c), (19, W4 (rnds numsK (sch b 64) s i).d), (20, W4 (rnds numsK (sch b 64) s i).e), (21, W4 (rnds numsK (sch b 64) s i).f), (22, W4 (rnds numsK (sch b 64) s i).g), (23, W4 (rnds numsK (sch b 64) s i).h)]) (fun i w1 => i ≤ 64 ∧ Own w1 44 1 (.slice (some adw) 64 cw) 64 (((sch b 64).map wcells).flatten) ∧ Mod [] w w1) (fun i => 64 - i) (0) ⟨rfl, rfl, rfl, rfl, rfl, rfl, rfl, rfl, rfl, rfl, rfl, rfl, trivial⟩ (⟨by omega, Ow, E⟩) ?_
      rintro i w15 ⟨hi, Ow, E⟩
      refine c_seq fun K25 hK25 => ?_
      refine c_seq fun K26 hK26 => ?_
      refine c_region ?_
      refine sv (o_mv rfl) rfl ?_
      refine sv (o_lss rfl rfl) rfl ?_
      refine l_nil ?_
      refine e_K (hK26 _ _ _ _ ?_)
      refine c_if rfl (fun h123 => ?_) (fun h123 => ?_)
      · skip
        have hlt64 : i < 64 := by omega
        have RO_xw := Ow.words (sch_len b _)
        obtain ⟨a_xw, ha_xw, hcs_xw, _⟩ := flat_at (cells := wcells) (xs := (sch b 64)) (i := i) RO_xw (at32_get (by rw [sch_len]; omega))
        injection ha_xw with ha_xw
        subst ha_xw
        obtain ⟨a_k, ha_k, hcs_k, _⟩ := flat_at (cells := wcells) (i := i) (Rk.to0 E) (at32_get (by show i < 64; omega))
        injection ha_k with ha_k
        subst ha_k
        refine c_skip ?_
        refine e_K (hK25 _ _ _ _ ?_)
        refine c_seq fun K27 hK27 => ?_
        refine c_block ?_
        refine c_seq fun K28 hK28 => ?_
        refine c_draw wide (by kernel_rfl) ?_
        refine tv (fun w_ E_ => (o_mv rfl)) rfl rfl ?_
        refine tv (fun w_ E_ => (o_mv rfl)) rfl rfl ?_
        refine tc (fun w_ E_ => o_call ent27 rfl) (fun w_ E_ => c_three _ _ 6 11 25 (by decide) (by decide) (by decide)) rfl rfl ?_
        refine tv (fun w_ E_ => (o_add4 rfl rfl)) rfl rfl ?_
        refine tv (fun w_ E_ => (o_mv rfl)) rfl rfl ?_
        refine tv (fun w_ E_ => (o_mv rfl)) rfl rfl ?_
        refine tv (fun w_ E_ => (o_and4 rfl rfl)) rfl rfl ?_
        refine tv (fun w_ E_ => (o_mv rfl)) rfl rfl ?_
        refine tv (fun w_ E_ => (o_com4 rfl)) rfl rfl ?_
        refine tv (fun w_ E_ => (o_mv rfl)) rfl rfl ?_
        refine tv (fun w_ E_ => (o_and4 rfl rfl)) rfl rfl ?_
        refine tv (fun w_ E_ => (o_xor4 rfl rfl)) rfl rfl ?_
        refine tv (fun w_ E_ => (o_add4 rfl rfl)) rfl rfl ?_
        refine tv (fun w_ E_ => (o_mv rfl)) rfl rfl ?_
        refine tv (fun w_ E_ => (o_mv rfl)) rfl rfl ?_
        refine tv (fun w_ E_ => (o_ix sl45 rfl rfl (by omega))) rfl rfl ?_
        refine tv (fun w_ E_ => (o_ld sc44 rfl (hcs_k.mod0 E_).first)) rfl rfl ?_
        refine tv (fun w_ E_ => (o_add4 rfl rfl)) rfl rfl ?_
        refine tv (fun w_ E_ => (o_mv rfl)) rfl rfl ?_
        refine tv (fun w_ E_ => (o_mv rfl)) rfl rfl ?_
        refine tv (fun w_ E_ => (o_ix sl45 rfl rfl (by omega))) rfl rfl ?_
        refine tv (fun w_ E_ => (o_ld sc44 rfl (hcs_xw.mod0 E_).first)) rfl rfl ?_
        refine tv (fun w_ E_ => (o_add4 rfl rfl)) rfl rfl ?_
        refine tv (fun w_ E_ => (o_as rfl)) rfl rfl ?_
        refine tw_nil rfl fun w16 E_ => ?_
        replace E := E.then E_
        replace Ow := Ow.mod0 E_
        refine e_K (hK28 _ _ _ _ ?_)
        refine c_seq fun K29 hK29 => ?_
        refine c_region ?_
        refine sv (o_mv rfl) rfl ?_
        refine sc (o_call ent27 rfl) (c_three _ _ 2 13 22 (by decide) (by decide) (by decide)) rfl fun v_ w17 h_ => ?_
        obtain ⟨rfl, E_⟩ := h_
        replace E := E.then E_
        replace Ow := Ow.mod0 E_
        refine sv (o_mv rfl) rfl ?_
        refine sv (o_mv rfl) rfl ?_
        refine sv (o_and4 rfl rfl) rfl ?_
        refine sv (o_mv rfl) rfl ?_
        refine sv (o_mv rfl) rfl ?_
        refine sv (o_and4 rfl rfl) rfl ?_
        refine sv (o_xor4 rfl rfl) rfl ?_
        refine sv (o_mv rfl) rfl ?_
        refine sv (o_mv rfl) rfl ?_
        refine sv (o_and4 rfl rfl) rfl ?_
        refine sv (o_xor4 rfl rfl) rfl ?_
        refine sv (o_add4 rfl rfl) rfl ?_
        refine sv (o_as rfl) rfl ?_
        refine l_nil ?_
        refine e_K (hK29 _ _ _ _ ?_)
        refine c_seq fun K30 hK30 => ?_
        refine c_region ?_
        refine sv (o_mv rfl) rfl ?_
        refine sv (o_as rfl) rfl ?_
        refine l_nil ?_
        refine e_K (hK30 _ _ _ _ ?_)
        refine c_seq fun K31 hK31 => ?_
        refine c_region ?_
        refine sv (o_mv rfl) rfl ?_
        refine sv (o_as rfl) rfl ?_
        refine l_nil ?_
        refine e_K (hK31 _ _ _ _ ?_)
        refine c_seq fun K32 hK32 => ?_
        refine c_region ?_
        refine sv (o_mv rfl) rfl ?_
        refine sv (o_as rfl) rfl ?_
        refine l_nil ?_
        refine e_K (hK32 _ _ _ _ ?_)
        refine c_seq fun K33 hK33 => ?_
        refine c_region ?_
        refine sv (o_mv rfl) rfl ?_
        refine sv (o_mv rfl) rfl ?_
        refine sv (o_add4 rfl rfl) rfl ?_
        refine sv (o_as rfl) rfl ?_
        refine l_nil ?_
        refine e_K (hK33 _ _ _ _ ?_)
        refine c_seq fun K34 hK34 => ?_
        refine c_region ?_
        refine sv (o_mv rfl) rfl ?_
        refine sv (o_as rfl) rfl ?_
        refine l_nil ?_
        refine e_K (hK34 _ _ _ _ ?_)
        refine c_seq fun K35 hK35 => ?_
        refine c_region ?_
        refine sv (o_mv rfl) rfl ?_
        refine sv (o_as rfl) rfl ?_
        refine l_nil ?_
        refine e_K (hK35 _ _ _ _ ?_)
        refine c_seq fun K36 hK36 => ?_
        refine c_region ?_
        refine sv (o_mv rfl) rfl ?_
        refine sv (o_as rfl) rfl ?_
        refine l_nil ?_
        refine e_K (hK36 _ _ _ _ ?_)
        refine c_region ?_
        refine sv (o_mv rfl) rfl ?_
        refine sv (o_mv rfl) rfl ?_
        refine sv (o_add4 rfl rfl) rfl ?_
        refine sv (o_as rfl) rfl ?_
        refine l_nil ?_
        refine e_in (by simp) ?_
        refine e_K (hK27 _ _ _ _ ?_)
        refine c_region ?_
        refine sv (o_mv rfl) rfl ?_
        refine sv (o_addN rfl rfl (by omega)) rfl ?_
        refine sv (o_as rfl) rfl ?_
        refine l_nil ?_
        exact e_round (σ := Nat) (s := i) (i + 1) ⟨rfl, rfl, rfl, rfl, rfl, rfl, rfl, rfl, rfl, rfl, rfl, rfl, trivial⟩ ⟨by omega, Ow, E⟩ (by omega)
      · skip
        have hi64 : i = 64 := by omega
        subst hi64
        obtain ⟨a_r0, ha_r0, hcs_r0, _⟩ := flat_at (i := 0) (R.to0 E) rfl
        injection ha_r0 with ha_r0
        subst ha_r0
        obtain ⟨a_r1, ha_r1, hcs_r1, _⟩ := flat_at (i := 1) (R.to0 E) rfl
        injection ha_r1 with ha_r1
        subst ha_r1
        obtain ⟨a_r2, ha_r2, hcs_r2, _⟩ := flat_at (i := 2) (R.to0 E) rfl
        injection ha_r2 with ha_r2
        subst ha_r2
        obtain ⟨a_r3, ha_r3, hcs_r3, _⟩ := flat_at (i := 3) (R.to0 E) rfl
        injection ha_r3 with ha_r3
        subst ha_r3
        obtain ⟨a_r4, ha_r4, hcs_r4, _⟩ := flat_at (i := 4) (R.to0 E) rfl
        injection ha_r4 with ha_r4
        subst ha_r4
        obtain ⟨a_r5, ha_r5, hcs_r5, _⟩ := flat_at (i := 5) (R.to0 E) rfl
        injection ha_r5 with ha_r5
        subst ha_r5
        obtain ⟨a_r6, ha_r6, hcs_r6, _⟩ := flat_at (i := 6) (R.to0 E) rfl
        injection ha_r6 with ha_r6
        subst ha_r6
        obtain ⟨a_r7, ha_r7, hcs_r7, _⟩ := flat_at (i := 7) (R.to0 E) rfl
        injection ha_r7 with ha_r7
        subst ha_r7
        refine c_exit ?_
        refine e_then (by simp) ?_
        refine e_then (by simp) ?_
        refine e_hit ?_
        refine e_K (hK23 _ _ _ _ ?_)
        refine c_seq fun K37 hK37 => ?_
        refine c_drawp [] [0, 1, 2, 3, 4, 5, 6, 7, 8, 9, 10, 11, 12, 13, 14, 15, 16, 17, 18, 19, 20, 21, 22, 23, 24, 25, 26, 27, 28, 29, 30, 31, 32, 33, 34, 35, 36, 37, 38, 39] 40 [41] wide (by kernel_rfl) (fun _ _ _ h => h.2) ?_
        refine pw_nil ?_
        refine tv (fun w_ E_ => (o_mv rfl)) rfl rfl ?_
        refine tv (fun w_ E_ => (o_ix sl45 rfl rfl (by omega))) rfl rfl ?_
        refine tv (fun w_ E_ => (o_ld sc44 rfl (hcs_r0.mod0 E_).first)) rfl rfl ?_
        refine tv (fun w_ E_ => (o_mv rfl)) rfl rfl ?_
        refine tv (fun w_ E_ => (o_add4 rfl rfl)) rfl rfl ?_
        refine tv (fun w_ E_ => (o_mv rfl)) rfl rfl ?_
        refine tv (fun w_ E_ => (o_ix sl45 rfl rfl (by omega))) rfl rfl ?_
        refine tv (fun w_ E_ => (o_ld sc44 rfl (hcs_r1.mod0 E_).first)) rfl rfl ?_
        refine tv (fun w_ E_ => (o_mv rfl)) rfl rfl ?_
        refine tv (fun w_ E_ => (o_add4 rfl rfl)) rfl rfl ?_
        refine tv (fun w_ E_ => (o_mv rfl)) rfl rfl ?_
        refine tv (fun w_ E_ => (o_ix sl45 rfl rfl (by omega))) rfl rfl ?_
        refine tv (fun w_ E_ => (o_ld sc44 rfl (hcs_r2.mod0 E_).first)) rfl rfl ?_
        refine tv (fun w_ E_ => (o_mv rfl)) rfl rfl ?_
        refine tv (fun w_ E_ => (o_add4 rfl rfl)) rfl rfl ?_
        refine tv (fun w_ E_ => (o_mv rfl)) rfl rfl ?_
        refine tv (fun w_ E_ => (o_ix sl45 rfl rfl (by omega))) rfl rfl ?_
        refine tv (fun w_ E_ => (o_ld sc44 rfl (hcs_r3.mod0 E_).first)) rfl rfl ?_
        refine tv (fun w_ E_ => (o_mv rfl)) rfl rfl ?_
        refine tv (fun w_ E_ => (o_add4 rfl rfl)) rfl rfl ?_
        refine tv (fun w_ E_ => (o_mv rfl)) rfl rfl ?_
        refine tv (fun w_ E_ => (o_ix sl45 rfl rfl (by omega))) rfl rfl ?_
        refine tv (fun w_ E_ => (o_ld sc44 rfl (hcs_r4.mod0 E_).first)) rfl rfl ?_
        refine tv (fun w_ E_ => (o_mv rfl)) rfl rfl ?_
        refine tv (fun w_ E_ => (o_add4 rfl rfl)) rfl rfl ?_
        refine tv (fun w_ E_ => (o_mv rfl)) rfl rfl ?_
        refine tv (fun w_ E_ => (o_ix sl45 rfl rfl (by omega))) rfl rfl ?_
        refine tv (fun w_ E_ => (o_ld sc44 rfl (hcs_r5.mod0 E_).first)) rfl rfl ?_
        refine tv (fun w_ E_ => (o_mv rfl)) rfl rfl ?_
        refine tv (fun w_ E_ => (o_add4 rfl rfl)) rfl rfl ?_
        refine tv (fun w_ E_ => (o_mv rfl)) rfl rfl ?_
        refine tv (fun w_ E_ => (o_ix sl45 rfl rfl (by omega))) rfl rfl ?_
        refine tv (fun w_ E_ => (o_ld sc44 rfl (hcs_r6.mod0 E_).first)) rfl rfl ?_
        refine tv (fun w_ E_ => (o_mv rfl)) rfl rfl ?_
        refine tv (fun w_ E_ => (o_add4 rfl rfl)) rfl rfl ?_
        refine tv (fun w_ E_ => (o_mv rfl)) rfl rfl ?_
        refine tv (fun w_ E_ => (o_ix sl45 rfl rfl (by omega))) rfl rfl ?_
        refine tv (fun w_ E_ => (o_ld sc44 rfl (hcs_r7.mod0 E_).first)) rfl rfl ?_
        refine tv (fun w_ E_ => (o_mv rfl)) rfl rfl ?_
        refine tv (fun w_ E_ => (o_add4 rfl rfl)) rfl rfl ?_
        refine tw_tail rfl fun w18 E_ => ?_
        replace E := E.then E_
        replace Ow := Ow.mod0 E_
        refine s_bslice (cs := [_, _, _, _, _, _, _, _]) sl45 zv44 rfl rfl rfl (by decide) rfl fun g3 w19 N3 => ?_
        have Lg3_E := N3.le E
        have Dow_g3 := N3.own_ne Ow
        replace E := E.then N3.mod
        replace Ow := Ow.mod0 N3.mod
        have Bg3 := N3.blk
        refine sv (o_as rfl) rfl ?_
        refine l_nil ?_
        refine e_K (hK37 _ _ _ _ ?_)
        refine c_ret ?_
        exact ret1 rfl rfl ⟨Own.all (cs := [_, _, _, _, _, _, _, _]) Bg3 rfl (by omega), fun x hx => by simp [ob] at hx; subst hx; exact Lg3_E, E⟩

end Go.Proofs.YtccjjkdogljmpaaDoor.V
