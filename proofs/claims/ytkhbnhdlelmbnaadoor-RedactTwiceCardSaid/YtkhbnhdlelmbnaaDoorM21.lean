/-
  A part of the proof: what stays of a content is no longer than memory. No condition of its own.
-/
import Derived.Test.YtkhbnhdlelmbnaaDoorM20
set_option linter.unusedVariables false
set_option linter.unusedSimpArgs false
set_option maxRecDepth 10000
namespace Go.Proofs.YtkhbnhdlelmbnaaDoor.V
open Go Go.Proofs
theorem se58 : ∀ (a0 : List UInt8) (a1 : List UInt8) (a2 : List UInt8) (b0 : List UInt8) (b1 : List UInt8) (b2 : List UInt8), seB Tryd.prog 58 [S a0, S a1, S a2] [S b0, S b1, S b2] = true := by intros; kernel_rfl
theorem ent41 : Ent Tryd.prog 41 := Ent.of Tryd.func41 (by kernel_rfl) (by kernel_rfl)
theorem c_list11 (w : World) (xs : List Str) (a1 a2 : Option Addr) (c1 c2 : Nat) (R : Rep [] w (strD xs) (.slice a1 xs.length c1)) (R2 : Rep [] w (strD xs) (.slice a2 xs.length c2)) (hl : xs.length ≤ 140737488351232) : Calls Tryd.prog 41 [.slice a1 xs.length c1, .slice a2 xs.length c2].toArray w (Ret fun u w' => u = .bool true ∧ Mod [] w w') := by
  refine enter Tryd.func41 rfl rfl rfl (l := [(0, _), (1, _)]) ⟨rfl, rfl, trivial⟩ ?_
  have E := Mod.refl [] w
  have hL : ¬ ((xs.length : Int) ≠ xs.length) := fun h => h rfl
  obtain ⟨_, c9a, hfla, hcc1a, hcc2a⟩ := flat_len R
  injection hfla with _ _ hfca
  subst hfca
  obtain ⟨_, c9b, hflb, hcc1b, hcc2b⟩ := flat_len R2
  injection hflb with _ _ hfcb
  subst hfcb
  refine c_seq fun K1 hK1 => ?_
  refine c_region ?_
  refine sv (o_as rfl) rfl ?_
  refine l_nil ?_
  refine e_K (hK1 _ _ _ _ ?_)
  refine c_seq fun K2 hK2 => ?_
  refine c_seq fun K3 hK3 => ?_
  refine c_region ?_
  refine sv (o_mv rfl) rfl ?_
  refine sv (o_len Tryd.underlying30 rfl) rfl ?_
  refine sv (o_mv rfl) rfl ?_
  refine sv (o_len Tryd.underlying30 rfl) rfl ?_
  refine sv (o_neq rfl rfl) rfl ?_
  refine l_nil ?_
  refine e_K (hK3 _ _ _ _ ?_)
  refine c_if rfl (fun h10 => absurd h10 hL) (fun h10 => ?_)
  refine c_skip ?_
  refine e_K (hK2 _ _ _ _ ?_)
  refine c_seq fun K4 hK4 => ?_
  refine c_seq fun K5 hK5 => ?_
  refine c_region ?_
  refine sv (o_mv rfl) rfl ?_
  refine sv (o_len Tryd.underlying30 rfl) rfl ?_
  refine sv (o_mv rfl) rfl ?_
  refine l_nil ?_
  refine e_K (hK5 _ _ _ _ ?_)
  refine c_block ?_
  refine c_loop (σ := Nat) (fun k => [(0, .slice a1 xs.length c1), (1, .slice a2 xs.length c2), (11, .slice a1 xs.length c1), (12, .int .i64 (xs.length : Int)), (13, .int .i64 (k : Int))]) (fun k w1 => k ≤ xs.length ∧ Mod [] w w1) (fun k => xs.length - k) (0) ⟨rfl, rfl, rfl, rfl, rfl, trivial⟩ (⟨by omega, E⟩) ?_
  rintro k w1 ⟨hk, E⟩
  refine c_seq fun K6 hK6 => ?_
  refine c_region ?_
  refine sv (o_lss rfl rfl) rfl ?_
  refine l_nil ?_
  refine e_K (hK6 _ _ _ _ ?_)
  refine c_seq fun K7 hK7 => ?_
  refine c_if rfl (fun h14 => ?_) (fun h14 => ?_)
  · skip
    obtain ⟨x, hx⟩ : ∃ x, xs[k]? = some x := ⟨_, List.getElem?_eq_getElem (by omega)⟩
    obtain ⟨a_x, ha_x, hcs_x, _⟩ := flat_at (R.to0 E) hx
    obtain ⟨a_y, ha_y, hcs_y, _⟩ := flat_at (R2.to0 E) hx
    cases ha_x
    cases ha_y
    refine c_skip ?_
    refine e_K (hK7 _ _ _ _ ?_)
    refine c_seq fun K8 hK8 => ?_
    refine c_block ?_
    refine c_seq fun K9 hK9 => ?_
    refine c_region ?_
    refine sv (o_mv rfl) rfl ?_
    refine sv (o_as rfl) rfl ?_
    refine l_nil ?_
    refine e_K (hK9 _ _ _ _ ?_)
    refine c_seq fun K10 hK10 => ?_
    refine c_draw wide (by kernel_rfl) ?_
    refine tv (fun w_ E_ => (o_mv rfl)) rfl rfl ?_
    refine tv (fun w_ E_ => (o_mv rfl)) rfl rfl ?_
    refine tv (fun w_ E_ => (o_ix sl30 rfl rfl (by omega))) rfl rfl ?_
    refine tv (fun w_ E_ => (o_ld sc9 rfl (hcs_x.mod0 E_).first)) rfl rfl ?_
    refine tv (fun w_ E_ => (o_mv rfl)) rfl rfl ?_
    refine tv (fun w_ E_ => (o_mv rfl)) rfl rfl ?_
    refine tv (fun w_ E_ => (o_ix sl30 rfl rfl (by omega))) rfl rfl ?_
    refine tv (fun w_ E_ => (o_ld sc9 rfl (hcs_y.mod0 E_).first)) rfl rfl ?_
    refine tv (fun w_ E_ => ((o_sne rfl rfl).to (v' := .bool false) (by simp))) rfl rfl ?_
    refine tw_nil rfl fun w2 E_ => ?_
    replace E := E.then E_
    refine e_K (hK10 _ _ _ _ ?_)
    refine c_false rfl ?_
    refine c_skip ?_
    refine e_in (by simp) ?_
    refine e_K (hK8 _ _ _ _ ?_)
    refine c_region ?_
    refine sv (o_addN rfl rfl (by omega)) rfl ?_
    refine sv (o_mv rfl) rfl ?_
    refine l_nil ?_
    exact e_round (σ := Nat) (s := k) (k + 1) ⟨rfl, rfl, rfl, rfl, rfl, trivial⟩ ⟨by omega, E⟩ (by omega)
  · skip
    refine c_exit ?_
    refine e_then (by simp) ?_
    refine e_then (by simp) ?_
    refine e_hit ?_
    refine e_K (hK4 _ _ _ _ ?_)
    refine c_seq fun K11 hK11 => ?_
    refine c_region ?_
    refine sv (o_as rfl) rfl ?_
    refine l_nil ?_
    refine e_K (hK11 _ _ _ _ ?_)
    refine c_ret ?_
    exact ret1 rfl rfl ⟨rfl, E⟩

theorem c_same_refl (w : World) (v : JV) (us vs : List Value) (R : Reps [] w v.D us) (R2 : Reps [] w v.D vs) : Calls Tryd.prog 40 [.agg us.toArray, .agg vs.toArray].toArray w (Ret fun u w' => u = .bool true ∧ Mod [] w w') := by
  have := c_same w v v us vs R R2
  rw [JV.eqJ_self] at this
  exact this

theorem c_same11 (w : World) (e : EV) (us vs : List Value) (R : Reps [] w e.D us) (R2 : Reps [] w e.D vs) (ho : e.ok) : Calls Tryd.prog 17 [.agg us.toArray, .agg vs.toArray].toArray w (Ret fun u w' => u = .bool true ∧ Mod [] w w') := by
  refine enter Tryd.func17 rfl rfl rfl (l := [(0, _), (1, _)]) ⟨rfl, rfl, trivial⟩ ?_
  have E := Mod.refl [] w
  obtain ⟨al, cl, am, cm, ap, cp, aa, ca, aS, cS, rfl, Rc, Rp, Ra, Rs⟩ := EV.cells17 R
  obtain ⟨al2, cl2, am2, cm2, ap2, cp2, aa2, ca2, aS2, cS2, rfl, Rc2, Rp2, Ra2, Rs2⟩ := EV.cells17 R2
  obtain ⟨ho1, ho2, ho3, ho4, ho5, ho6, ho7, ho8, ho9, ho10, ho11, ho12⟩ := ho
  have hL : ¬ ((e.sigs.length : Int) ≠ e.sigs.length) := fun h => h rfl
  obtain ⟨_, c9a, hfla, hcc1a, hcc2a⟩ := flat_len Rs
  injection hfla with _ _ hfca
  subst hfca
  obtain ⟨_, c9b, hflb, hcc1b, hcc2b⟩ := flat_len Rs2
  injection hflb with _ _ hfcb
  subst hfcb
  refine c_seq fun K1 hK1 => ?_
  refine c_region ?_
  refine s_box rfl rfl rfl fun g1 w1 N1 => ?_
  have Lg1_E := N1.le E
  replace E := E.then N1.mod
  have Bg1 := N1.blk
  refine s_box rfl rfl rfl fun g2 w2 N2 => ?_
  have Lg2_E := N2.le E
  have Dg1_g2 := N2.ne Bg1
  replace Bg1 := Bg1.mod0 N2.mod
  replace E := E.then N2.mod
  have Bg2 := N2.blk
  refine sv (o_as rfl) rfl ?_
  refine l_nil ?_
  refine e_K (hK1 _ _ _ _ ?_)
  refine c_seq fun K2 hK2 => ?_
  refine c_seq fun K3 hK3 => ?_
  refine c_region ?_
  refine sv (o_fa0 fd33_0 rfl) rfl ?_
  refine sv (o_ld sc9 rfl (Bg1.cell rfl)) rfl ?_
  refine sv (o_fa0 fd33_0 rfl) rfl ?_
  refine sv (o_ld sc9 rfl (Bg2.cell rfl)) rfl ?_
  refine sv (o_sne rfl rfl) rfl ?_
  refine sv (o_mv rfl) rfl ?_
  refine sg rfl (decide_eq_false (show ¬ (e.room ≠ e.room) from fun h => h rfl)) (o_fa0 fd33_1 rfl) rfl ?_
  refine sg rfl (decide_eq_false (show ¬ (e.room ≠ e.room) from fun h => h rfl)) (o_ld sc9 rfl (Bg1.cell rfl)) rfl ?_
  refine sg rfl (decide_eq_false (show ¬ (e.room ≠ e.room) from fun h => h rfl)) (o_fa0 fd33_1 rfl) rfl ?_
  refine sg rfl (decide_eq_false (show ¬ (e.room ≠ e.room) from fun h => h rfl)) (o_ld sc9 rfl (Bg2.cell rfl)) rfl ?_
  refine sg rfl (decide_eq_false (show ¬ (e.room ≠ e.room) from fun h => h rfl)) (o_sne rfl rfl) rfl ?_
  refine sv (o_pickF (decide_eq_false (show ¬ (e.room ≠ e.room) from fun h => h rfl)) rfl rfl) rfl ?_
  refine sv (o_mv rfl) rfl ?_
  refine sg rfl (decide_eq_false (show ¬ (e.snd ≠ e.snd) from fun h => h rfl)) (o_fa0 fd33_2 rfl) rfl ?_
  refine sg rfl (decide_eq_false (show ¬ (e.snd ≠ e.snd) from fun h => h rfl)) (o_ld sc9 rfl (Bg1.cell rfl)) rfl ?_
  refine sg rfl (decide_eq_false (show ¬ (e.snd ≠ e.snd) from fun h => h rfl)) (o_fa0 fd33_2 rfl) rfl ?_
  refine sg rfl (decide_eq_false (show ¬ (e.snd ≠ e.snd) from fun h => h rfl)) (o_ld sc9 rfl (Bg2.cell rfl)) rfl ?_
  refine sg rfl (decide_eq_false (show ¬ (e.snd ≠ e.snd) from fun h => h rfl)) (o_sne rfl rfl) rfl ?_
  refine sv (o_pickF (decide_eq_false (show ¬ (e.snd ≠ e.snd) from fun h => h rfl)) rfl rfl) rfl ?_
  refine sv (o_mv rfl) rfl ?_
  refine sg rfl (decide_eq_false (show ¬ (e.ty ≠ e.ty) from fun h => h rfl)) (o_fa0 fd33_3 rfl) rfl ?_
  refine sg rfl (decide_eq_false (show ¬ (e.ty ≠ e.ty) from fun h => h rfl)) (o_ld sc4 rfl (Bg1.cell rfl)) rfl ?_
  refine sg rfl (decide_eq_false (show ¬ (e.ty ≠ e.ty) from fun h => h rfl)) (o_fa0 fd33_3 rfl) rfl ?_
  refine sg rfl (decide_eq_false (show ¬ (e.ty ≠ e.ty) from fun h => h rfl)) (o_ld sc4 rfl (Bg2.cell rfl)) rfl ?_
  refine sg rfl (decide_eq_false (show ¬ (e.ty ≠ e.ty) from fun h => h rfl)) (o_bsne Tryd.underlying4 rfl rfl) rfl ?_
  refine sv (o_pickF (decide_eq_false (show ¬ (e.ty ≠ e.ty) from fun h => h rfl)) rfl rfl) rfl ?_
  refine sv (o_mv rfl) rfl ?_
  refine sg rfl ((show (e.st != e.st) = false by simp)) (o_fa0 fd33_4 rfl) rfl ?_
  refine sg rfl ((show (e.st != e.st) = false by simp)) (o_ld sc9 rfl (Bg1.cell rfl)) rfl ?_
  refine sg rfl ((show (e.st != e.st) = false by simp)) (o_fa0 fd33_4 rfl) rfl ?_
  refine sg rfl ((show (e.st != e.st) = false by simp)) (o_ld sc9 rfl (Bg2.cell rfl)) rfl ?_
  refine sg rfl ((show (e.st != e.st) = false by simp)) (o_sne rfl rfl) rfl ?_
  refine sv (o_pickF ((show (e.st != e.st) = false by simp)) rfl rfl) rfl ?_
  refine sv (o_mv rfl) rfl ?_
  refine sg rfl (decide_eq_false (show ¬ (e.key ≠ e.key) from fun h => h rfl)) (o_fa0 fd33_8 rfl) rfl ?_
  refine sg rfl (decide_eq_false (show ¬ (e.key ≠ e.key) from fun h => h rfl)) (o_ld sc3 rfl (Bg1.cell rfl)) rfl ?_
  refine sg rfl (decide_eq_false (show ¬ (e.key ≠ e.key) from fun h => h rfl)) (o_fa0 fd33_8 rfl) rfl ?_
  refine sg rfl (decide_eq_false (show ¬ (e.key ≠ e.key) from fun h => h rfl)) (o_ld sc3 rfl (Bg2.cell rfl)) rfl ?_
  refine sg rfl (decide_eq_false (show ¬ (e.key ≠ e.key) from fun h => h rfl)) (o_neq rfl rfl) rfl ?_
  refine sv (o_pickF (decide_eq_false (show ¬ (e.key ≠ e.key) from fun h => h rfl)) rfl rfl) rfl ?_
  refine sv (o_mv rfl) rfl ?_
  refine sg rfl (decide_eq_false (show ¬ ((e.dep : Int) ≠ (e.dep : Int)) from fun h => h rfl)) (o_fa0 fd33_9 rfl) rfl ?_
  refine sg rfl (decide_eq_false (show ¬ ((e.dep : Int) ≠ (e.dep : Int)) from fun h => h rfl)) (o_ld sc3 rfl (Bg1.cell rfl)) rfl ?_
  refine sg rfl (decide_eq_false (show ¬ ((e.dep : Int) ≠ (e.dep : Int)) from fun h => h rfl)) (o_fa0 fd33_9 rfl) rfl ?_
  refine sg rfl (decide_eq_false (show ¬ ((e.dep : Int) ≠ (e.dep : Int)) from fun h => h rfl)) (o_ld sc3 rfl (Bg2.cell rfl)) rfl ?_
  refine sg rfl (decide_eq_false (show ¬ ((e.dep : Int) ≠ (e.dep : Int)) from fun h => h rfl)) (o_neq rfl rfl) rfl ?_
  refine sv (o_pickF (decide_eq_false (show ¬ ((e.dep : Int) ≠ (e.dep : Int)) from fun h => h rfl)) rfl rfl) rfl ?_
  refine sv (o_mv rfl) rfl ?_
  refine sg rfl (decide_eq_false (show ¬ ((e.time : Int) ≠ (e.time : Int)) from fun h => h rfl)) (o_fa0 fd33_10 rfl) rfl ?_
  refine sg rfl (decide_eq_false (show ¬ ((e.time : Int) ≠ (e.time : Int)) from fun h => h rfl)) (o_ld sc9 rfl (Bg1.cell rfl)) rfl ?_
  refine sg rfl (decide_eq_false (show ¬ ((e.time : Int) ≠ (e.time : Int)) from fun h => h rfl)) (o_fa0 fd33_10 rfl) rfl ?_
  refine sg rfl (decide_eq_false (show ¬ ((e.time : Int) ≠ (e.time : Int)) from fun h => h rfl)) (o_ld sc9 rfl (Bg2.cell rfl)) rfl ?_
  refine sg rfl (decide_eq_false (show ¬ ((e.time : Int) ≠ (e.time : Int)) from fun h => h rfl)) (o_sne rfl rfl) rfl ?_
  refine sv (o_pickF (decide_eq_false (show ¬ ((e.time : Int) ≠ (e.time : Int)) from fun h => h rfl)) rfl rfl) rfl ?_
  refine sv (o_mv rfl) rfl ?_
  refine sg rfl (decide_eq_false (show ¬ (e.hash ≠ e.hash) from fun h => h rfl)) (o_fa0 fd33_11 rfl) rfl ?_
  refine sg rfl (decide_eq_false (show ¬ (e.hash ≠ e.hash) from fun h => h rfl)) (o_ld sc31 rfl (Bg1.cell rfl)) rfl ?_
  refine sg rfl (decide_eq_false (show ¬ (e.hash ≠ e.hash) from fun h => h rfl)) (o_len Tryd.underlying31 rfl) rfl ?_
  refine sg rfl (decide_eq_false (show ¬ (e.hash ≠ e.hash) from fun h => h rfl)) (o_fa0 fd33_11 rfl) rfl ?_
  refine sg rfl (decide_eq_false (show ¬ (e.hash ≠ e.hash) from fun h => h rfl)) (o_ld sc31 rfl (Bg2.cell rfl)) rfl ?_
  refine sg rfl (decide_eq_false (show ¬ (e.hash ≠ e.hash) from fun h => h rfl)) (o_len Tryd.underlying31 rfl) rfl ?_
  refine sg rfl (decide_eq_false (show ¬ (e.hash ≠ e.hash) from fun h => h rfl)) (o_neq rfl rfl) rfl ?_
  refine sv (o_pickF (decide_eq_false (show ¬ (e.hash ≠ e.hash) from fun h => h rfl)) rfl rfl) rfl ?_
  refine l_nil ?_
  refine e_K (hK3 _ _ _ _ ?_)
  refine c_if rfl (fun h68 => absurd h68 hL) (fun h68 => ?_)
  refine c_skip ?_
  refine e_K (hK2 _ _ _ _ ?_)
  refine c_seq fun K4 hK4 => ?_
  refine c_seq fun K5 hK5 => ?_
  refine c_region ?_
  refine sv (o_fa0 fd33_11 rfl) rfl ?_
  refine sv (o_ld sc31 rfl (Bg1.cell rfl)) rfl ?_
  refine sv (o_len Tryd.underlying31 rfl) rfl ?_
  refine sv (o_mv rfl) rfl ?_
  refine l_nil ?_
  refine e_K (hK5 _ _ _ _ ?_)
  refine c_block ?_
  refine c_loop (σ := Nat) (fun k => [(2, .pointer (some ⟨g1, 0, none⟩)), (3, .pointer (some ⟨g2, 0, none⟩)), (71, .int .i64 (e.sigs.length : Int)), (72, .int .i64 (k : Int))]) (fun k w1 => k ≤ e.sigs.length ∧ Blk w1 g1 33 [S e.room, S e.snd, S e.ty, .bool e.st, S e.key, .int .i64 e.con.kind, .bool e.con.is, .int .i64 e.con.num, S e.con.str, .slice al e.con.list.length cl, .slice am e.con.map.length cm, .slice ap e.prev.length cp, .slice aa e.auth.length ca, .int .i64 e.dep, .int .i64 e.time, S e.hash, .slice aS e.sigs.length cS] ∧ Blk w1 g2 33 [S e.room, S e.snd, S e.ty, .bool e.st, S e.key, .int .i64 e.con.kind, .bool e.con.is, .int .i64 e.con.num, S e.con.str, .slice al2 e.con.list.length cl2, .slice am2 e.con.map.length cm2, .slice ap2 e.prev.length cp2, .slice aa2 e.auth.length ca2, .int .i64 e.dep, .int .i64 e.time, S e.hash, .slice aS2 e.sigs.length cS2] ∧ Mod [] w w1) (fun k => e.sigs.length - k) (0) ⟨rfl, rfl, rfl, rfl, trivial⟩ (⟨by omega, Bg1, Bg2, E⟩) ?_
  rintro k w3 ⟨hk, Bg1, Bg2, E⟩
  refine c_seq fun K6 hK6 => ?_
  refine c_region ?_
  refine sv (o_lss rfl rfl) rfl ?_
  refine l_nil ?_
  refine e_K (hK6 _ _ _ _ ?_)
  refine c_seq fun K7 hK7 => ?_
  refine c_if rfl (fun h73 => ?_) (fun h73 => ?_)
  · skip
    obtain ⟨x, hx⟩ : ∃ x, e.sigs[k]? = some x := ⟨_, List.getElem?_eq_getElem (by omega)⟩
    obtain ⟨a_x, ha_x, hcs_x, _⟩ := flat_at (Rs.to0 E) hx
    obtain ⟨a_y, ha_y, hcs_y, _⟩ := flat_at (Rs2.to0 E) hx
    cases ha_x
    cases ha_y
    refine c_skip ?_
    refine e_K (hK7 _ _ _ _ ?_)
    refine c_seq fun K8 hK8 => ?_
    refine c_block ?_
    refine c_seq fun K9 hK9 => ?_
    refine c_region ?_
    refine sv (o_mv rfl) rfl ?_
    refine sv (o_as rfl) rfl ?_
    refine l_nil ?_
    refine e_K (hK9 _ _ _ _ ?_)
    refine c_seq fun K10 hK10 => ?_
    refine c_draw wide (by kernel_rfl) ?_
    refine tv (fun w_ E_ => (o_fa0 fd33_11 rfl)) rfl rfl ?_
    refine tv (fun w_ E_ => (o_ld sc31 rfl ((Bg1.mod0 E_).cell rfl))) rfl rfl ?_
    refine tv (fun w_ E_ => (o_mv rfl)) rfl rfl ?_
    refine tv (fun w_ E_ => (o_ix sl31 rfl rfl (by omega))) rfl rfl ?_
    refine tv (fun w_ E_ => (o_lda ag58 rfl rfl (hcs_x.mod0 E_))) rfl rfl ?_
    refine tv (fun w_ E_ => (o_fa0 fd33_11 rfl)) rfl rfl ?_
    refine tv (fun w_ E_ => (o_ld sc31 rfl ((Bg2.mod0 E_).cell rfl))) rfl rfl ?_
    refine tv (fun w_ E_ => (o_mv rfl)) rfl rfl ?_
    refine tv (fun w_ E_ => (o_ix sl31 rfl rfl (by omega))) rfl rfl ?_
    refine tv (fun w_ E_ => (o_lda ag58 rfl rfl (hcs_y.mod0 E_))) rfl rfl ?_
    refine tv (fun w_ E_ => ((o_stne (se58 ..) rfl rfl rfl).to (v' := .bool false) (by simp))) rfl rfl ?_
    refine tw_nil rfl fun w4 E_ => ?_
    replace Bg1 := Bg1.mod0 E_
    replace Bg2 := Bg2.mod0 E_
    replace E := E.then E_
    refine e_K (hK10 _ _ _ _ ?_)
    refine c_false rfl ?_
    refine c_skip ?_
    refine e_in (by simp) ?_
    refine e_K (hK8 _ _ _ _ ?_)
    refine c_region ?_
    refine sv (o_addN rfl rfl (by omega)) rfl ?_
    refine sv (o_mv rfl) rfl ?_
    refine l_nil ?_
    exact e_round (σ := Nat) (s := k) (k + 1) ⟨rfl, rfl, rfl, rfl, trivial⟩ ⟨by omega, Bg1, Bg2, E⟩ (by omega)
  · skip
    refine c_exit ?_
    refine e_then (by simp) ?_
    refine e_then (by simp) ?_
    refine e_hit ?_
    refine e_K (hK4 _ _ _ _ ?_)
    refine c_seq fun K11 hK11 => ?_
    refine c_region ?_
    refine sv (o_fa0 fd33_5 rfl) rfl ?_
    refine sv (o_lda (vs := [_, _, _, _, _, _]) ag25 rfl rfl (Bg1.cs rfl)) rfl ?_
    refine sv (o_fa0 fd33_5 rfl) rfl ?_
    refine sv (o_lda (vs := [_, _, _, _, _, _]) ag25 rfl rfl (Bg2.cs rfl)) rfl ?_
    refine sc (o_call ent40 rfl) (c_same_refl _ e.con _ _ (Rc.to0 E) (Rc2.to0 E)) rfl fun v_ w5 h_ => ?_
    obtain ⟨rfl, E_⟩ := h_
    replace Bg1 := Bg1.mod0 E_
    replace Bg2 := Bg2.mod0 E_
    replace E := E.then E_
    refine sv (o_mv rfl) rfl ?_
    refine sg rfl (rfl) (o_fa0 fd33_6 rfl) rfl ?_
    refine sg rfl (rfl) (o_ld sc30 rfl (Bg1.cell rfl)) rfl ?_
    refine sg rfl (rfl) (o_fa0 fd33_6 rfl) rfl ?_
    refine sg rfl (rfl) (o_ld sc30 rfl (Bg2.cell rfl)) rfl ?_
    refine sgc rfl (rfl) (o_call ent41 rfl) (c_list11 _ e.prev ap ap2 cp cp2 (Rp.to0 E) (Rp2.to0 E) ho7) rfl fun v_ w6 h_ => ?_
    obtain ⟨rfl, E_⟩ := h_
    replace Bg1 := Bg1.mod0 E_
    replace Bg2 := Bg2.mod0 E_
    replace E := E.then E_
    refine sv (o_pickT (rfl) rfl rfl) rfl ?_
    refine sv (o_mv rfl) rfl ?_
    refine sg rfl (rfl) (o_fa0 fd33_7 rfl) rfl ?_
    refine sg rfl (rfl) (o_ld sc30 rfl (Bg1.cell rfl)) rfl ?_
    refine sg rfl (rfl) (o_fa0 fd33_7 rfl) rfl ?_
    refine sg rfl (rfl) (o_ld sc30 rfl (Bg2.cell rfl)) rfl ?_
    refine sgc rfl (rfl) (o_call ent41 rfl) (c_list11 _ e.auth aa aa2 ca ca2 (Ra.to0 E) (Ra2.to0 E) ho9) rfl fun v_ w7 h_ => ?_
    obtain ⟨rfl, E_⟩ := h_
    replace Bg1 := Bg1.mod0 E_
    replace Bg2 := Bg2.mod0 E_
    replace E := E.then E_
    refine sv (o_pickT (rfl) rfl rfl) rfl ?_
    refine sv (o_as rfl) rfl ?_
    refine l_nil ?_
    refine e_K (hK11 _ _ _ _ ?_)
    refine c_ret ?_
    exact ret1 rfl rfl ⟨rfl, E⟩

theorem c_strip (w : World) (e : EV) (us : List Value) (R : Reps [] w e.D us) (hva : ascM e.con.map) (hvn : e.con.map.length ≤ 1353245080310) (hta : ascM e.con.third.map) (htn : e.con.third.map.length ≤ 1353245080310) : Calls Tryd.prog 16 [.agg us.toArray].toArray w (Ret fun u w' => ∃ us', u = .agg us'.toArray ∧ Reps [] w' e.strip.D us' ∧ Mod [] w w') := by
  refine enter Tryd.func16 rfl rfl rfl (l := [(0, _)]) ⟨rfl, trivial⟩ ?_
  have E := Mod.refl [] w
  obtain ⟨al, cl, am, cm, ap, cp, aa, ca, aS, cS, rfl, Rc, Rp, Ra, Rs⟩ := EV.cells17 R
  refine c_seq fun K1 hK1 => ?_
  refine c_region ?_
  refine s_box rfl rfl rfl fun g1 w1 N1 => ?_
  have Lg1_E := N1.le E
  replace E := E.then N1.mod
  have Bg1 := N1.blk
  refine s_alloc zv33 rfl fun g2 w2 N2 => ?_
  have Lg2_E := N2.le E
  have Dg1_g2 := N2.ne Bg1
  replace Bg1 := Bg1.mod0 N2.mod
  replace E := E.then N2.mod
  have Bg2 := N2.blk
  refine l_nil ?_
  refine e_K (hK1 _ _ _ _ ?_)
  refine c_seq fun K2 hK2 => ?_
  refine c_region ?_
  refine sv (o_fa0 fd33_2 rfl) rfl ?_
  refine sv (o_ld sc9 rfl (Bg1.cell rfl)) rfl ?_
  refine sv (o_fa0 fd33_5 rfl) rfl ?_
  refine sv (o_lda (vs := [_, _, _, _, _, _]) ag25 rfl rfl (Bg1.cs rfl)) rfl ?_
  refine sc (o_call ent38 rfl) (c_contentA [g1, g2] _ (fun a ha => by rcases List.mem_cons.1 ha with rfl | ha; exact Bg1.lt; rcases List.mem_cons.1 ha with rfl | ha; exact Bg2.lt; cases ha) e.ty e.con _ ((Rc.more (A' := [g1, g2]) (fun a ha => by rcases List.mem_cons.1 ha with rfl | ha; exact .inr Lg1_E; rcases List.mem_cons.1 ha with rfl | ha; exact .inr Lg2_E; cases ha)).to0 E) hva hvn hta htn) rfl fun v_ w3 h_ => ?_
  obtain ⟨us7, rfl, Rx, E_⟩ := h_
  replace Bg1 := Bg1.mod0 E_
  replace Bg2 := Bg2.mod0 E_
  replace E := E.then E_
  obtain ⟨al7, cl7, am7, cm7, rfl, Rl7, Rm7⟩ := JV.cells_ Rx
  clear Rx
  refine sv (o_fa0 fd33_5 rfl) rfl ?_
  refine s_sta (vs := [_, _, _, _, _, _]) ag25 Bg1 rfl rfl rfl (by simp [Value.oneCell']) (by simp) fun w4 P4 => ?_
  replace Bg2 := Bg2.ne P4.mod (Ne.symm Dg1_g2)
  replace E := E.own P4.mod Lg1_E
  replace Bg1 : Blk w4 g1 _ [_, _, _, _, _, _, _, _, _, _, _, _, _, _, _, _, _] := P4.blk
  replace Rl7 := Rl7.toM P4.mod (fun a ha => by simp [List.mem_singleton.1 ha])
  replace Rm7 := Rm7.toM P4.mod (fun a ha => by simp [List.mem_singleton.1 ha])
  refine l_nil ?_
  refine e_K (hK2 _ _ _ _ ?_)
  refine c_seq fun K3 hK3 => ?_
  refine c_region ?_
  refine sv (o_lda (vs := [_, _, _, _, _, _, _, _, _, _, _, _, _, _, _, _, _]) ag33 rfl rfl (Bg1.cs rfl)) rfl ?_
  refine s_sta (vs := [_, _, _, _, _, _, _, _, _, _, _, _, _, _, _, _, _]) ag33 Bg2 rfl rfl rfl (by simp [Value.oneCell']) (by simp) fun w5 P5 => ?_
  replace Bg1 := Bg1.ne P5.mod (Ne.symm (Ne.symm Dg1_g2))
  replace E := E.own P5.mod Lg2_E
  replace Bg2 : Blk w5 g2 _ [_, _, _, _, _, _, _, _, _, _, _, _, _, _, _, _, _] := P5.blk
  replace Rl7 := Rl7.toM P5.mod (fun a ha => by simp [List.mem_singleton.1 ha])
  replace Rm7 := Rm7.toM P5.mod (fun a ha => by simp [List.mem_singleton.1 ha])
  refine l_nil ?_
  refine e_K (hK3 _ _ _ _ ?_)
  refine c_ret ?_
  exact retc (vs := [_, _, _, _, _, _, _, _, _, _, _, _, _, _, _, _, _]) rfl ag33 rfl rfl (Bg2.cs rfl) ⟨_, rfl, EV.reps_ (e := e.strip) (JV.reps_ (v := JV.content e.ty e.con) (Rl7.anti (A' := []) (by simp)) (Rm7.anti (A' := []) (by simp))) (Rp.to0 E) (Ra.to0 E) (Rs.to0 E), E⟩
end Go.Proofs.YtkhbnhdlelmbnaaDoor.V

set_option linter.unusedVariables false
set_option linter.unusedSimpArgs false
set_option maxRecDepth 10000
namespace Go.Proofs.YtkhbnhdlelmbnaaDoor.V
open Go Go.Proofs
theorem ent15 : Ent Tryd.prog 15 := Ent.of Tryd.func15 (by kernel_rfl) (by kernel_rfl)
theorem c_jcopy_step (N : Nat) (ih : ∀ (A : List Nat) (w : World) (v : JV) (us : List Value), v.sz ≤ N → v.ok → (∀ a ∈ A, a < w.heap.size) → Reps [] w v.D us → Calls Tryd.prog 15 [.agg us.toArray].toArray w (Ret fun u w' => ∃ us', u = .agg us'.toArray ∧ Reps A w' v.D us' ∧ Mod [] w w')) (A : List Nat) (w : World) (v : JV) (us : List Value) (hN : v.sz ≤ N + 1) (ho : v.ok) (hA : ∀ a ∈ A, a < w.heap.size) (R : Reps [] w v.D us) : Calls Tryd.prog 15 [.agg us.toArray].toArray w (Ret fun u w' => ∃ us', u = .agg us'.toArray ∧ Reps A w' v.D us' ∧ Mod [] w w') := by
  refine enter Tryd.func15 rfl rfl rfl (l := [(0, _)]) ⟨rfl, trivial⟩ ?_
  have E := Mod.refl [] w
  obtain ⟨_, hol, hom, hox, hoy⟩ := (JV.ok_eq v).1 ho
  obtain ⟨al, cl, am, cm, rfl, Rl, Rm⟩ := JV.cells_ R
  refine c_seq fun K1 hK1 => ?_
  refine c_region ?_
  refine s_box rfl rfl rfl fun g1 w1 N1 => ?_
  have Lg1_E := N1.le E
  replace E := E.then N1.mod
  have Bg1 := N1.blk
  refine s_alloc zv25 rfl fun g2 w2 N2 => ?_
  have Lg2_E := N2.le E
  have Dg1_g2 := N2.ne Bg1
  replace Bg1 := Bg1.mod0 N2.mod
  replace E := E.then N2.mod
  have Bg2 := N2.blk
  refine l_nil ?_
  refine e_K (hK1 _ _ _ _ ?_)
  refine c_seq fun K2 hK2 => ?_
  refine c_region ?_
  refine sv (o_as rfl) rfl ?_
  refine l_nil ?_
  refine e_K (hK2 _ _ _ _ ?_)
  refine c_seq fun K3 hK3 => ?_
  refine c_seq fun K4 hK4 => ?_
  refine c_region ?_
  refine sv (o_fa0 fd25_4 rfl) rfl ?_
  refine sv (o_ld sc22 rfl (Bg1.cell rfl)) rfl ?_
  refine sv (o_len Tryd.underlying22 rfl) rfl ?_
  refine sv (o_mv rfl) rfl ?_
  refine l_nil ?_
  refine e_K (hK4 _ _ _ _ ?_)
  refine c_block ?_
  refine c_loop (σ := Nat × Value × List Value) (fun ⟨k, wv, vs⟩ => [(1, .pointer (some ⟨g1, 0, none⟩)), (2, .pointer (some ⟨g2, 0, none⟩)), (3, wv), (10, .slice al v.list.length cl), (11, .int .i64 v.list.length), (12, .int .i64 (k : Int))]) (fun ⟨k, wv, vs⟩ w1 => k ≤ v.list.length ∧ GL (g1 :: g2 :: A) w w1 25 6 wv k ((v.list.take k).map JV.D) vs ∧ Blk w1 g2 25 [.int .i64 0, .bool false, .int .i64 0, S [], .slice none 0 0, .slice none 0 0] ∧ Blk w1 g1 25 [.int .i64 v.kind, .bool v.is, .int .i64 v.num, S v.str, .slice al v.list.length cl, .slice am v.map.length cm] ∧ Mod [] w w1) (fun ⟨k, wv, vs⟩ => v.list.length - k) (⟨0, .slice none 0 0, []⟩) ⟨rfl, rfl, rfl, rfl, rfl, rfl, trivial⟩ (⟨by omega, GL.nil (fun a ha => by rcases List.mem_cons.1 ha with rfl | ha; exact Bg1.lt; rcases List.mem_cons.1 ha with rfl | ha; exact Bg2.lt; exact Nat.lt_of_lt_of_le (hA a ha) E.size), Bg2, Bg1, E⟩) ?_
  rintro ⟨k, wv, vs⟩ w3 ⟨hk, GG, Bg2, Bg1, E⟩
  have Ek := Mod.refl [] w3
  refine c_seq fun K5 hK5 => ?_
  refine c_region ?_
  refine sv (o_lss rfl rfl) rfl ?_
  refine l_nil ?_
  refine e_K (hK5 _ _ _ _ ?_)
  refine c_seq fun K6 hK6 => ?_
  refine c_if rfl (fun h13 => ?_) (fun h13 => ?_)
  · skip
    obtain ⟨x, hx_x⟩ : ∃ x, v.list[k]? = some x := ⟨_, List.getElem?_eq_getElem (by omega)⟩
    obtain ⟨a_x, us_x, ha_x, R_x, hcs0_x⟩ := JV.at_l Rl hx_x
    obtain ⟨al_x, cl_x, am_x, cm_x, rfl, Rl_x, Rm_x⟩ := JV.cells_ R_x
    have hcs_x := hcs0_x.mod0 E
    have hcap_x := JV.cap_l Rl
    obtain rfl := ha_x
    refine c_skip ?_
    refine e_K (hK6 _ _ _ _ ?_)
    refine c_seq fun K7 hK7 => ?_
    refine c_block ?_
    refine c_seq fun K8 hK8 => ?_
    refine c_region ?_
    refine sv (o_ix sl22 rfl rfl (by omega)) rfl ?_
    refine sv (o_lda ag25 rfl rfl hcs_x) rfl ?_
    refine s_alloc zv25 rfl fun g3 w4 N3 => ?_
    have Lg3_E := N3.le E
    have Lg3_Ek := N3.le Ek
    have Dg1_g3 := N3.ne Bg1
    have Dg2_g3 := N3.ne Bg2
    replace Bg1 := Bg1.mod0 N3.mod
    replace Bg2 := Bg2.mod0 N3.mod
    replace E := E.then N3.mod
    replace Ek := Ek.then N3.mod
    have Bg3 := N3.blk
    refine s_sta (vs := [_, _, _, _, _, _]) ag25 Bg3 rfl rfl rfl (by simp [Value.oneCell']) (by simp) fun w5 P5 => ?_
    replace Bg1 := Bg1.ne P5.mod (Ne.symm (Ne.symm Dg1_g3))
    replace Bg2 := Bg2.ne P5.mod (Ne.symm (Ne.symm Dg2_g3))
    replace E := E.own P5.mod Lg3_E
    replace Ek := Ek.own P5.mod Lg3_Ek
    replace Bg3 : Blk w5 g3 _ [_, _, _, _, _, _] := P5.blk
    refine l_nil ?_
    refine e_K (hK8 _ _ _ _ ?_)
    refine c_region ?_
    refine sv (o_mv rfl) rfl ?_
    refine sv (o_lda (vs := [_, _, _, _, _, _]) ag25 rfl rfl (Bg3.cs rfl)) rfl ?_
    refine sc (o_call ent15 rfl) (ih ((g1 :: g2 :: A) ++ ob wv) _ x _ (by have := JV.sz_in_list (List.mem_of_getElem? hx_x); omega) (hox x (List.mem_of_getElem? hx_x)) (GG.mod0 Ek).lt (R_x.to0 E)) rfl fun v_ w6 h_ => ?_
    obtain ⟨us3, rfl, Rx3, E_⟩ := h_
    replace Bg1 := Bg1.mod0 E_
    replace Bg2 := Bg2.mod0 E_
    replace Bg3 := Bg3.mod0 E_
    replace E := E.then E_
    replace Ek := Ek.then E_
    obtain ⟨al3, cl3, am3, cm3, rfl, Rl3, Rm3⟩ := JV.cells_ Rx3
    replace Rx3 := JV.reps_ Rl3 Rm3
    have Ekr := Mod.refl [] w6
    refine s_bslice (cs := [_, _, _, _, _, _]) sl22 zv25 rfl rfl rfl (by decide) rfl fun g4 w7 N4 => ?_
    have Lg4_E := N4.le E
    have Lg4_Ek := N4.le Ek
    have Lg4_Ekr := N4.le Ekr
    have Dg1_g4 := N4.ne Bg1
    have Dg2_g4 := N4.ne Bg2
    have Dg3_g4 := N4.ne Bg3
    replace Bg1 := Bg1.mod0 N4.mod
    replace Bg2 := Bg2.mod0 N4.mod
    replace Bg3 := Bg3.mod0 N4.mod
    replace E := E.then N4.mod
    replace Ek := Ek.then N4.mod
    replace Ekr := Ekr.then N4.mod
    have Bg4 := N4.blk
    have GN := GG.mod0 Ek
    have RxN := Rx3.to0 Ekr
    have hcl_ := JV.cap_l Rl
    refine s_append sl22 rfl rfl GN.own (Src.own Tryd.underlying22 (Own.all (cs := [_, _, _, _, _, _]) Bg4 rfl (by omega)) (by simp [Value.oneCell', B8])) (by decide) (by omega) (by omega) rfl fun wv2 w8 AA => ?_
    replace Bg1 := Bg1.mod AA.mod (fun hx => GN.dj _ hx (by simp))
    replace Bg2 := Bg2.mod AA.mod (fun hx => GN.dj _ hx (by simp))
    have GG2 := GN.app E AA rfl RxN
    rw [← take_map_succ JV.D hx_x] at GG2
    replace E := E.trans' AA.mod (fun y hy => .inr (GN.fr y hy))
    refine sv (o_as rfl) rfl ?_
    refine l_nil ?_
    refine e_in (by simp) ?_
    refine e_K (hK7 _ _ _ _ ?_)
    refine c_region ?_
    refine sv (o_addN rfl rfl (by omega)) rfl ?_
    refine sv (o_mv rfl) rfl ?_
    refine l_nil ?_
    exact e_round (σ := Nat × Value × List Value) (s := ⟨k, wv, vs⟩) (⟨k + 1, wv2, vs ++ _⟩) ⟨rfl, rfl, rfl, rfl, rfl, rfl, trivial⟩ ⟨by omega, GG2, Bg2, Bg1, E⟩ (by dsimp only; omega)
  · skip
    have hkl : k = v.list.length := by omega
    subst hkl
    have RL0 := GG.rep (fun r hr => by obtain ⟨x_, _, rfl⟩ := List.mem_map.1 hr; exact JV.D_len _) (by simp)
    rw [List.take_length] at RL0
    obtain ⟨adl, ccl, rfl, hal1, hal2⟩ := GG.own.form
    refine c_exit ?_
    refine e_then (by simp) ?_
    refine e_then (by simp) ?_
    refine e_hit ?_
    refine e_K (hK3 _ _ _ _ ?_)
    refine c_seq fun K9 hK9 => ?_
    refine c_region ?_
    refine sv (o_as rfl) rfl ?_
    refine l_nil ?_
    refine e_K (hK9 _ _ _ _ ?_)
    refine c_seq fun K10 hK10 => ?_
    refine c_seq fun K11 hK11 => ?_
    refine c_region ?_
    refine sv (o_fa0 fd25_5 rfl) rfl ?_
    refine sv (o_ld sc23 rfl (Bg1.cell rfl)) rfl ?_
    refine sv (o_len Tryd.underlying23 rfl) rfl ?_
    refine sv (o_mv rfl) rfl ?_
    refine l_nil ?_
    refine e_K (hK11 _ _ _ _ ?_)
    refine c_block ?_
    refine c_loop (σ := Nat × Value × List Value) (fun ⟨k, mv, vs⟩ => [(1, .pointer (some ⟨g1, 0, none⟩)), (2, .pointer (some ⟨g2, 0, none⟩)), (3, .slice adl v.list.length ccl), (6, mv), (23, .slice am v.map.length cm), (24, .int .i64 v.map.length), (25, .int .i64 (k : Int))]) (fun ⟨k, mv, vs⟩ w1 => k ≤ v.map.length ∧ GL (g1 :: g2 :: A) w w1 62 7 mv k ((v.map.take k).map JV.Dp) vs ∧ Rep ((g1 :: g2 :: A) ++ ob mv) w1 (.sl 6 (v.list.map JV.D)) (.slice adl v.list.length ccl) ∧ Blk w1 g2 25 [.int .i64 0, .bool false, .int .i64 0, S [], .slice none 0 0, .slice none 0 0] ∧ Blk w1 g1 25 [.int .i64 v.kind, .bool v.is, .int .i64 v.num, S v.str, .slice al v.list.length cl, .slice am v.map.length cm] ∧ Mod [] w w1) (fun ⟨k, mv, vs⟩ => v.map.length - k) (⟨0, .slice none 0 0, []⟩) ⟨rfl, rfl, rfl, rfl, rfl, rfl, rfl, trivial⟩ (⟨by omega, GL.nil (GG.al), by simpa [ob] using RL0, Bg2, Bg1, E⟩) ?_
    rintro ⟨k, mv, vs⟩ w9 ⟨hk, GM, RLK, Bg2, Bg1, E⟩
    have Ek := Mod.refl [] w9
    refine c_seq fun K12 hK12 => ?_
    refine c_region ?_
    refine sv (o_lss rfl rfl) rfl ?_
    refine l_nil ?_
    refine e_K (hK12 _ _ _ _ ?_)
    refine c_seq fun K13 hK13 => ?_
    refine c_if rfl (fun h26 => ?_) (fun h26 => ?_)
    · skip
      obtain ⟨x, hx_x⟩ : ∃ x, v.map[k]? = some x := ⟨_, List.getElem?_eq_getElem (by omega)⟩
      obtain ⟨a_x, us_x, ha_x, R_x, hcs0_x⟩ := JV.at_m Rm hx_x
      obtain ⟨al_x, cl_x, am_x, cm_x, rfl, Rl_x, Rm_x⟩ := JV.cells_ R_x
      have hcs_x := hcs0_x.mod0 E
      have hcap_x := JV.cap_m Rm
      obtain rfl := ha_x
      refine c_skip ?_
      refine e_K (hK13 _ _ _ _ ?_)
      refine c_seq fun K14 hK14 => ?_
      refine c_block ?_
      refine c_seq fun K15 hK15 => ?_
      refine c_region ?_
      refine sv (o_ix sl23 rfl rfl (by omega)) rfl ?_
      refine sv (o_lda ag62 rfl rfl hcs_x) rfl ?_
      refine s_alloc zv62 rfl fun g5 w10 N5 => ?_
      have Lg5_E := N5.le E
      have Lg5_Ek := N5.le Ek
      have Dg1_g5 := N5.ne Bg1
      have Dg2_g5 := N5.ne Bg2
      replace Bg1 := Bg1.mod0 N5.mod
      replace Bg2 := Bg2.mod0 N5.mod
      replace E := E.then N5.mod
      replace Ek := Ek.then N5.mod
      have Bg5 := N5.blk
      refine s_sta (vs := [_, _, _, _, _, _, _]) ag62 Bg5 rfl rfl rfl (by simp [Value.oneCell']) (by simp) fun w11 P11 => ?_
      replace Bg1 := Bg1.ne P11.mod (Ne.symm (Ne.symm Dg1_g5))
      replace Bg2 := Bg2.ne P11.mod (Ne.symm (Ne.symm Dg2_g5))
      replace E := E.own P11.mod Lg5_E
      replace Ek := Ek.own P11.mod Lg5_Ek
      replace Bg5 : Blk w11 g5 _ [_, _, _, _, _, _, _] := P11.blk
      refine l_nil ?_
      refine e_K (hK15 _ _ _ _ ?_)
      refine c_drawp [] [0, 1, 2, 3, 4, 5, 6, 7] 8 [9] wide (by kernel_rfl) (fun _ _ _ h => h.2) ?_
      refine pw_nil ?_
      refine tv (fun w_ E_ => (o_mv rfl)) rfl rfl ?_
      refine tv (fun w_ E_ => (o_fa0 fd62_0 rfl)) rfl rfl ?_
      refine tv (fun w_ E_ => (o_ld sc9 rfl ((Bg5.mod0 E_).cell rfl))) rfl rfl ?_
      refine tv (fun w_ E_ => (o_fa0 fd62_1 rfl)) rfl rfl ?_
      refine tv (fun w_ E_ => (o_lda (vs := [_, _, _, _, _, _]) ag25 rfl rfl ((Bg5.mod0 E_).cs rfl))) rfl rfl ?_
      refine tcr (fun u w_ => ∃ us, u = .agg us.toArray ∧ Reps ((g1 :: g2 :: A) ++ ob mv) w_ x.2.D us) (fun v_ w1_ w2_ k_ h_ => by obtain ⟨us_, e_, r_⟩ := h_; exact ⟨us_, e_, r_.to0 k_⟩) (fun w_ E_ => o_call ent15 rfl) (fun w_ E_ => Calls.imp (ih ((g1 :: g2 :: A) ++ ob mv) w_ x.2 _ (by have := JV.sz_in_map (List.mem_of_getElem? hx_x); omega) (hoy x (List.mem_of_getElem? hx_x)).2 ((GM.mod0 Ek).mod0 E_).lt (R_x.to0 (E.then E_))) fun r_ w2_ hr => by obtain ⟨us_, e_, r2_, k_⟩ := hr; exact ⟨⟨us_, e_, r2_⟩, k_⟩) rfl rfl rfl ?_
      refine tr1 (fun u w_ => ∃ us, u = .agg (S x.1 :: us).toArray ∧ Reps ((g1 :: g2 :: A) ++ ob mv) w_ x.2.D us) (fun v_ w1_ w2_ k_ h_ => by obtain ⟨us_, e_, r_⟩ := h_; exact ⟨us_, e_, r_.to0 k_⟩) 34 rfl rfl ⟨_, List.Mem.tail _ (List.Mem.head _), rfl⟩ (fun w_ u_ E_ h_ => by
        obtain ⟨us_, rfl, r_⟩ := h_
        obtain ⟨ala, cla, ama, cma, rfl, rl_, rm_⟩ := JV.cells_ r_
        exact ⟨_, _, o_build (cs := [_, _, _, _, _, _, _]) pl62 zv62 rfl rfl, Mod.refl [] _, ⟨_, rfl, JV.reps_ rl_ rm_⟩⟩) rfl rfl rfl ?_
      refine tr1 (fun u w_ => ∃ ala cla ama cma, Own w_ 62 7 u 1 (S x.1 :: [.int .i64 x.2.kind, .bool x.2.is, .int .i64 x.2.num, S x.2.str, .slice ala x.2.list.length cla, .slice ama x.2.map.length cma]) ∧ Reps ((g1 :: g2 :: A) ++ ob mv) w_ x.2.D [.int .i64 x.2.kind, .bool x.2.is, .int .i64 x.2.num, S x.2.str, .slice ala x.2.list.length cla, .slice ama x.2.map.length cma]) (fun v_ w1_ w2_ k_ h_ => by obtain ⟨a_, b_, c_, d_, e_, r_⟩ := h_; exact ⟨a_, b_, c_, d_, e_.mod0 k_, r_.to0 k_⟩) 35 rfl rfl ⟨_, List.Mem.head _, rfl⟩ (fun w_ u_ E_ h_ => by
        obtain ⟨us_, rfl, r_⟩ := h_
        obtain ⟨ala, cla, ama, cma, rfl, rl_, rm_⟩ := JV.cells_ r_
        have N_ := New.mk' w_ 62 (S x.1 :: [.int .i64 x.2.kind, .bool x.2.is, .int .i64 x.2.num, S x.2.str, .slice ala x.2.list.length cla, .slice ama x.2.map.length cma])
        exact ⟨_, _, r_bslice (cs := [_, _, _, _, _, _, _]) sl23 zv62 rfl rfl rfl (by decide), N_.mod, ⟨ala, cla, ama, cma, Own.all (cs := [_, _, _, _, _, _, _]) N_.blk rfl (by omega), (JV.reps_ rl_ rm_).to0 N_.mod⟩⟩) rfl rfl rfl ?_
      refine tw_tail1 (t := 36) rfl rfl rfl rfl fun w12 v_ E_ h_ => ?_
      obtain ⟨ala, cla, ama, cma, O4, R4⟩ := h_
      replace Bg1 := Bg1.mod0 E_
      replace Bg2 := Bg2.mod0 E_
      replace Bg5 := Bg5.mod0 E_
      replace E := E.then E_
      replace Ek := Ek.then E_
      have GN := GM.mod0 Ek
      have RLN := RLK.to0 Ek
      have hcm_ := JV.cap_m Rm
      refine s_append sl23 rfl rfl GN.own (Src.own Tryd.underlying23 O4 (by simp [Value.oneCell', B8])) (by decide) (by omega) (by omega) rfl fun mv2 w13 AA => ?_
      replace Bg1 := Bg1.mod AA.mod (fun hx => GN.dj _ hx (by simp))
      replace Bg2 := Bg2.mod AA.mod (fun hx => GN.dj _ hx (by simp))
      have GM2 := GN.app E AA rfl (JV.Dp_reps (p := x) R4)
      rw [← take_map_succ JV.Dp hx_x] at GM2
      have RLK2 := GL.keep AA RLN
      replace E := E.trans' AA.mod (fun y hy => .inr (GN.fr y hy))
      refine sv (o_as rfl) rfl ?_
      refine l_nil ?_
      refine e_in (by simp) ?_
      refine e_K (hK14 _ _ _ _ ?_)
      refine c_region ?_
      refine sv (o_addN rfl rfl (by omega)) rfl ?_
      refine sv (o_mv rfl) rfl ?_
      refine l_nil ?_
      exact e_round (σ := Nat × Value × List Value) (s := ⟨k, mv, vs⟩) (⟨k + 1, mv2, vs ++ _⟩) ⟨rfl, rfl, rfl, rfl, rfl, rfl, rfl, trivial⟩ ⟨by omega, GM2, RLK2, Bg2, Bg1, E⟩ (by dsimp only; omega)
    · skip
      have hkm : k = v.map.length := by omega
      subst hkm
      have RM0 := GM.rep (fun r hr => by obtain ⟨x_, _, rfl⟩ := List.mem_map.1 hr; exact JV.Dp_len _) (by simp)
      rw [List.take_length] at RM0
      have RL1 := RLK.anti (A' := g1 :: g2 :: A) (fun a ha => List.mem_append_left _ ha)
      obtain ⟨adm, ccm, rfl, ham1, ham2⟩ := GM.own.form
      refine c_exit ?_
      refine e_then (by simp) ?_
      refine e_then (by simp) ?_
      refine e_hit ?_
      refine e_K (hK10 _ _ _ _ ?_)
      refine c_seq fun K16 hK16 => ?_
      refine c_region ?_
      refine sv (o_mv rfl) rfl ?_
      refine sv (o_fa0 fd25_4 rfl) rfl ?_
      refine s_st sc22 Bg1 rfl rfl rfl (by simp) fun w14 P14 => ?_
      replace Bg2 := Bg2.ne P14.mod (Ne.symm Dg1_g2)
      replace E := E.own P14.mod Lg1_E
      replace Bg1 : Blk w14 g1 _ [_, _, _, _, _, _] := P14.blk
      replace RL1 := RL1.toM P14.mod (fun a ha => by simp [List.mem_singleton.1 ha])
      replace RM0 := RM0.toM P14.mod (fun a ha => by simp [List.mem_singleton.1 ha])
      refine l_nil ?_
      refine e_K (hK16 _ _ _ _ ?_)
      refine c_seq fun K17 hK17 => ?_
      refine c_region ?_
      refine sv (o_mv rfl) rfl ?_
      refine sv (o_fa0 fd25_5 rfl) rfl ?_
      refine s_st sc23 Bg1 rfl rfl rfl (by simp) fun w15 P15 => ?_
      replace Bg2 := Bg2.ne P15.mod (Ne.symm Dg1_g2)
      replace E := E.own P15.mod Lg1_E
      replace Bg1 : Blk w15 g1 _ [_, _, _, _, _, _] := P15.blk
      replace RL1 := RL1.toM P15.mod (fun a ha => by simp [List.mem_singleton.1 ha])
      replace RM0 := RM0.toM P15.mod (fun a ha => by simp [List.mem_singleton.1 ha])
      refine l_nil ?_
      refine e_K (hK17 _ _ _ _ ?_)
      refine c_seq fun K18 hK18 => ?_
      refine c_region ?_
      refine sv (o_lda (vs := [_, _, _, _, _, _]) ag25 rfl rfl (Bg1.cs rfl)) rfl ?_
      refine s_sta (vs := [_, _, _, _, _, _]) ag25 Bg2 rfl rfl rfl (by simp [Value.oneCell']) (by simp) fun w16 P16 => ?_
      replace Bg1 := Bg1.ne P16.mod (Ne.symm (Ne.symm Dg1_g2))
      replace E := E.own P16.mod Lg2_E
      replace Bg2 : Blk w16 g2 _ [_, _, _, _, _, _] := P16.blk
      replace RL1 := RL1.toM P16.mod (fun a ha => by simp [List.mem_singleton.1 ha])
      replace RM0 := RM0.toM P16.mod (fun a ha => by simp [List.mem_singleton.1 ha])
      refine l_nil ?_
      refine e_K (hK18 _ _ _ _ ?_)
      refine c_ret ?_
      exact retc (vs := [_, _, _, _, _, _]) rfl ag25 rfl rfl (Bg2.cs rfl) ⟨_, rfl, JV.reps_ (v := v) (RL1.anti (A' := A) (fun a ha => by simp [ha])) (RM0.anti (A' := A) (fun a ha => by simp [ha])), E⟩

theorem c_jcopy_all : ∀ N : Nat, ∀ (A : List Nat) (w : World) (v : JV) (us : List Value), v.sz ≤ N → v.ok → (∀ a ∈ A, a < w.heap.size) → Reps [] w v.D us → Calls Tryd.prog 15 [.agg us.toArray].toArray w (Ret fun u w' => ∃ us', u = .agg us'.toArray ∧ Reps A w' v.D us' ∧ Mod [] w w')
  | 0, A, w, v, us, h, ho, hA, R => absurd (JV.sz_eq v) (by omega)
  | N + 1, A, w, v, us, h, ho, hA, R => c_jcopy_step N (c_jcopy_all N) A w v us h ho hA R
theorem c_jcopy (A : List Nat) (w : World) (v : JV) (us : List Value) (ho : v.ok) (hA : ∀ a ∈ A, a < w.heap.size) (R : Reps [] w v.D us) : Calls Tryd.prog 15 [.agg us.toArray].toArray w (Ret fun u w' => ∃ us', u = .agg us'.toArray ∧ Reps A w' v.D us' ∧ Mod [] w w') := c_jcopy_all v.sz A w v us (Nat.le_refl _) ho hA R
end Go.Proofs.YtkhbnhdlelmbnaaDoor.V

set_option linter.unusedVariables false
set_option linter.unusedSimpArgs false
namespace Go.Proofs.YtkhbnhdlelmbnaaDoor.V
open Go
namespace JV
theorem stay_ok (kind : Str) (p q : Str × JV) (hp : p.1.length ≤ 140737488351232 ∧ p.2.ok) (h : stay kind p = some q) : q.1.length ≤ 140737488351232 ∧ q.2.ok := by
  have s0 : stay0 kind p = some q → q.1.length ≤ 140737488351232 ∧ q.2.ok := fun e => by
    unfold stay0 at e
    split at e
    · injection e with e
      subst e
      exact hp
    · cases e
  unfold stay at h
  split at h
  · split at h
    · rename_i y hy
      injection h with h
      subst h
      refine ⟨hp.1, (ok_eq _).2 ⟨by simp [obj, str], by simp [obj, list], by simp [obj, map], by simp [obj, list], fun x hx => ?_⟩⟩
      simp only [obj, map, List.mem_singleton] at hx
      subst hx
      exact ⟨(show kSigned.length ≤ 140737488351232 by decide), (((ok_eq _).1 hp.2).2.2.2.2 _ (look_some hy)).2⟩
    · exact s0 h
  · exact s0 h
theorem contentR_ok {kind : Str} {v : JV} (h : v.ok) : (contentR kind v).ok := by
  unfold contentR
  split
  · exact h
  obtain ⟨h1, h2, h3, h4, h5⟩ := (ok_eq v).1 h
  split
  · exact (ok_eq _).2 ⟨by simp [obj, str], by simp [obj, list], by simp [obj, map], by simp [obj, list], by simp [obj, map]⟩
  · refine (ok_eq _).2 ⟨by simp [obj, str], by simp [obj, list], ?_, by simp [obj, list], fun x hx => ?_⟩
    · simp only [obj, map]
      exact Nat.le_trans (List.length_filterMap_le _ _) h3
    · simp only [obj, map] at hx
      obtain ⟨p, hp, hq⟩ := List.mem_filterMap.1 hx
      exact stay_ok kind p x (h5 p hp) hq
end JV
namespace EV
theorem strip_ok {e : EV} (ha : ascM e.con.map) (ho : e.ok) : e.strip.ok := by
  obtain ⟨ho1, ho2, ho3, ho4, ho5, ho6, ho7, ho8, ho9, ho10, ho11, ho12⟩ := ho
  exact ⟨ho1, ho2, ho3, ho4, by show (JV.content e.ty e.con).ok; rw [JV.content_eq ha]; exact JV.contentR_ok ho5, ho6, ho7, ho8, ho9, ho10, ho11, ho12⟩
theorem strip_lens {e : EV} (h : e.lens) : e.strip.lens := h
theorem strip_asc {e : EV} (hva : ascM e.con.map) (hvn : e.con.map.length ≤ 1353245080310) (hr : e.con.Rise) (ho : e.con.ok) : ascM e.strip.con.map ∧ e.strip.con.map.length ≤ 1353245080310 ∧ ascM e.strip.con.third.map ∧ e.strip.con.third.map.length ≤ 1353245080310 := by
  have ho' : e.strip.con.ok := by show (JV.content e.ty e.con).ok; rw [JV.content_eq hva]; exact JV.contentR_ok ho
  have hr' : e.strip.con.Rise := by
    show (JV.content e.ty e.con).Rise
    rw [JV.content_eq hva]
    unfold JV.contentR
    split
    · exact hr
    split
    · rw [JV.Rise_eq]
      simp [JV.obj, JV.map, JV.list, ascM]
    · rw [JV.Rise_eq]
      refine ⟨?_, by simp [JV.obj, JV.list], fun x hx => ?_⟩
      · exact ascM_filterMap (JV.stay_key _) hva
      · simp only [JV.obj, JV.map] at hx
        obtain ⟨p, hp, hq⟩ := List.mem_filterMap.1 hx
        have hpr : p.2.Rise := ((JV.Rise_eq _).1 hr).2.2 p hp
        have s0 : JV.stay0 e.ty p = some x → x.2.Rise := fun e_ => by
          unfold JV.stay0 at e_
          split at e_
          · injection e_ with e_
            subst e_
            exact hpr
          · cases e_
        unfold JV.stay at hq
        split at hq
        · split at hq
          · rename_i y hy
            injection hq with hq
            subst hq
            rw [JV.Rise_eq]
            refine ⟨by simp [JV.obj, JV.map, ascM], by simp [JV.obj, JV.list], fun z hz => ?_⟩
            simp only [JV.obj, JV.map, List.mem_singleton] at hz
            subst hz
            exact ((JV.Rise_eq _).1 hpr).2.2 _ (look_some hy)
          · exact s0 hq
        · exact s0 hq
  exact ⟨((JV.Rise_eq _).1 hr').1, by have := ((JV.ok_eq _).1 ho').2.2.1; omega, JV.third_asc hr', JV.third_len ho'⟩
end EV
end Go.Proofs.YtkhbnhdlelmbnaaDoor.V
