/-
  A part of the proof: two events: one that can be, and the empty one. No condition of its own.
-/
import Derived.Test.YtkhbnhdlelmbnaaDoorM18
import Derived.Test.YtkhbnhdlelmbnaaDoorM21
set_option linter.unusedVariables false
set_option linter.unusedSimpArgs false
namespace Go.Proofs.YtkhbnhdlelmbnaaDoor.V
open Go
theorem EV.reps_ {A : List Nat} {w : World} {e : EV} {cs : List Value} {up ua uS : Value} (Rc : Reps A w e.con.D cs) (Rp : Rep A w (strD e.prev) up) (Ra : Rep A w (strD e.auth) ua) (Rs : Rep A w (flat 3 Sig3.cells e.sigs) uS) :
    Reps A w e.D ([S e.room, S e.snd, S e.ty, .bool e.st, S e.key] ++ (cs ++ [up, ua, .int .i64 e.dep, .int .i64 e.time, S e.hash, uS])) := by
  unfold EV.D
  refine Reps.append (Reps.cons_ (Rep.v_ rfl) (Reps.cons_ (Rep.v_ rfl) (Reps.cons_ (Rep.v_ rfl) (Reps.cons_ (Rep.v_ rfl) (Reps.cons_ (Rep.v_ rfl) Reps.nil_))))) (Reps.append Rc ?_)
  exact Reps.cons_ Rp (Reps.cons_ Ra (Reps.cons_ (Rep.v_ rfl) (Reps.cons_ (Rep.v_ rfl) (Reps.cons_ (Rep.v_ rfl) (Reps.cons_ Rs Reps.nil_)))))
def JV.five : JV := .mk 5 false 0 [] [] []
theorem JV.five_reps {A : List Nat} {w : World} : Reps A w JV.five.D [.int .i64 5, .bool false, .int .i64 0, S [], .slice none 0 0, .slice none 0 0] :=
  JV.reps_ (A := A) (w := w) (v := JV.five) (al := none) (am := none) (cl := 0) (cm := 0) Rep.sl_nil Rep.sl_nil
theorem JV.five_wr : JV.five.wr 0 [] = .ok [123, 125] := by
  rw [JV.wr_eq, if_neg (by decide), if_neg (by decide), if_neg (by decide), if_neg (by decide), if_neg (by decide), if_neg (by decide), if_neg (by decide)]
  have h1 : lng ([] ++ [123]) = .ok [123] := rfl
  have h2 : JV.wrm JV.five.map 0 none [123] = .ok [123] := by
    show JV.wrm [] 0 none [123] = .ok [123]
    rw [JV.wrm]
  rw [h1]
  show (JV.wrm JV.five.map 0 none [123]).bind _ = _
  rw [h2]
  rfl
abbrev as43 : Str := List.replicate 43 65
/-- an event that can be -/
def EV.plain : EV := { room := [33, 114, 58, 97], snd := [64, 117, 58, 97], ty := [116], st := false, key := [], con := JV.five, prev := [36 :: as43], auth := [], dep := 0, time := 0, hash := as43, sigs := [] }
def EV.nul : EV := { room := [], snd := [], ty := [], st := false, key := [], con := JV.nul, prev := [], auth := [], dep := 0, time := 0, hash := [], sigs := [] }
theorem valid_t : validR [116] = true := by
  have h : runeR [116] = (116, 1) := by rw [runeR_small (by decide)]; rfl
  rw [validR_go (by simp) (by rw [h]; simp), h]
  exact validR_nil
theorem EV.plain_chk : EV.plain.chk = 0 := by
  refine EV.chk_yes (by decide) ?_
  rw [EV.fine_eq]
  have n1 : namedB 33 qRoom EV.plain.room = true := by decide +kernel
  have n2 : namedB 64 qUser EV.plain.snd = true := by decide +kernel
  have n3 : shortB EV.plain.ty = true := by
    show shortB [116] = true
    unfold shortB
    rw [valid_t]
    rfl
  have n4 : shortB EV.plain.key = true := by
    show shortB [] = true
    unfold shortB
    rw [validR_nil]
    rfl
  have n5 : bytesB EV.plain.hash 32 = true := by decide +kernel
  have n6 : EV.plain.prev.all eventB = true := by decide +kernel
  have n7 : decide (ern (EV.plain.con.wr 0 []) = 0) = true := by
    show decide (ern (JV.five.wr 0 []) = 0) = true
    rw [JV.five_wr]
    rfl
  rw [n5, n6, n7]
  unfold EV.names
  rw [n1, n2, n3, n4]
  rfl
theorem EV.nul_chk : EV.nul.chk = 21 := by
  refine EV.chk_no (by decide) ?_
  rw [EV.fine_eq]
  have n1 : namedB 33 qRoom EV.nul.room = false := by decide +kernel
  unfold EV.names
  rw [n1]
  simp
theorem EV.nul_ok : EV.nul.ok := by
  refine ⟨by decide, by decide, by decide, by decide, ?_, by simp [EV.nul], by decide, by simp [EV.nul], by decide, by decide, by simp [EV.nul], by decide⟩
  show JV.nul.ok
  rw [JV.ok_eq]
  simp [JV.nul, JV.list, JV.map, JV.str]
theorem EV.plain_ok : EV.plain.ok := by
  refine ⟨by decide, by decide, by decide, by decide, ?_, by decide, by decide, by simp [EV.plain], by decide, by decide, by simp [EV.plain], by decide⟩
  show JV.five.ok
  rw [JV.ok_eq]
  simp [JV.five, JV.list, JV.map, JV.str]
theorem EV.nul_lens : EV.nul.lens := ⟨by decide, by decide, by simp [EV.nul]⟩
theorem EV.plain_lens : EV.plain.lens := ⟨by decide, by decide, by simp [EV.plain]⟩
theorem EV.nul_reps {A : List Nat} {w : World} : Reps A w EV.nul.D [S [], S [], S [], .bool false, S [], .int .i64 0, .bool false, .int .i64 0, S [], .slice none 0 0, .slice none 0 0, .slice none 0 0, .slice none 0 0, .int .i64 0, .int .i64 0, S [], .slice none 0 0] :=
  EV.reps_ (e := EV.nul) JV.nul_reps Rep.sl_nil Rep.sl_nil Rep.sl_nil
end Go.Proofs.YtkhbnhdlelmbnaaDoor.V

set_option linter.unusedVariables false
set_option linter.unusedSimpArgs false
set_option maxRecDepth 10000
namespace Go.Proofs.YtkhbnhdlelmbnaaDoor.V
open Go Go.Proofs
theorem zv33 : zvB Tryd.prog 33 ([S [], S [], S [], .bool false, S [], .int .i64 0, .bool false, .int .i64 0, S [], .slice none 0 0, .slice none 0 0, .slice none 0 0, .slice none 0 0, .int .i64 0, .int .i64 0, S [], .slice none 0 0]) := by unfold zvB; kernel_rfl
theorem pl33 : plB Tryd.prog 33 [(0, 1), (1, 1), (2, 1), (3, 1), (4, 1), (5, 6), (11, 1), (12, 1), (13, 1), (14, 1), (15, 1), (16, 1)] = true := by kernel_rfl
theorem ag33 : agB Tryd.prog 33 17 = true := by kernel_rfl
theorem ent10 : Ent Tryd.prog 10 := Ent.of Tryd.func10 (by kernel_rfl) (by kernel_rfl)
theorem ent9 : Ent Tryd.prog 9 := Ent.of Tryd.func9 (by kernel_rfl) (by kernel_rfl)
theorem ent11 : Ent Tryd.prog 11 := Ent.of Tryd.func11 (by kernel_rfl) (by kernel_rfl)
theorem ent12 : Ent Tryd.prog 12 := Ent.of Tryd.func12 (by kernel_rfl) (by kernel_rfl)
theorem c_plainE (w : World) : Calls Tryd.prog 10 [].toArray w (Ret fun u w' => (∃ us, u = .agg us.toArray ∧ Reps [] w' EV.plain.D us) ∧ Mod [] w w') := by
  refine enter Tryd.func10 rfl rfl rfl (l := []) trivial ?_
  have E := Mod.refl [] w
  refine c_seq fun K1 hK1 => ?_
  refine c_region ?_
  refine s_alloc zv33 rfl fun g1 w1 N1 => ?_
  have Lg1_E := N1.le E
  replace E := E.then N1.mod
  have Bg1 := N1.blk
  refine l_nil ?_
  refine e_K (hK1 _ _ _ _ ?_)
  refine c_seq fun K2 hK2 => ?_
  refine c_region ?_
  refine sv (o_as rfl) rfl ?_
  refine l_nil ?_
  refine e_K (hK2 _ _ _ _ ?_)
  refine c_seq fun K3 hK3 => ?_
  refine c_region ?_
  refine sv (o_build (cs := [_, _, _, _, _, _]) pl25 zv25 rfl rfl) rfl ?_
  refine sv (o_mv rfl) rfl ?_
  refine sv (o_sadd (u := [36]) (v := as43) rfl rfl (by decide)) rfl ?_
  refine s_bslice (cs := [_]) sl30 zv9 rfl rfl rfl (by decide) rfl fun g2 w2 N2 => ?_
  have Lg2_E := N2.le E
  have Dg1_g2 := N2.ne Bg1
  replace Bg1 := Bg1.mod0 N2.mod
  replace E := E.then N2.mod
  have Bg2 := N2.blk
  refine sv (o_mv rfl) rfl ?_
  refine sv (o_build (cs := [_, _, _, _, _, _, _, _, _, _, _, _, _, _, _, _, _]) pl33 zv33 rfl rfl) rfl ?_
  refine s_sta (vs := [_, _, _, _, _, _, _, _, _, _, _, _, _, _, _, _, _]) ag33 Bg1 rfl rfl rfl (by simp [Value.oneCell']) (by simp) fun w3 P3 => ?_
  replace Bg2 := Bg2.ne P3.mod (Ne.symm Dg1_g2)
  replace E := E.own P3.mod Lg1_E
  replace Bg1 : Blk w3 g1 _ [_, _, _, _, _, _, _, _, _, _, _, _, _, _, _, _, _] := P3.blk
  refine l_nil ?_
  refine e_K (hK3 _ _ _ _ ?_)
  refine c_ret ?_
  exact retc (vs := [_, _, _, _, _, _, _, _, _, _, _, _, _, _, _, _, _]) rfl ag33 rfl rfl (Bg1.cs rfl) ⟨⟨_, rfl, EV.reps_ (e := EV.plain) JV.five_reps (strs_blk (xs := EV.plain.prev) Bg2 (by decide) (by simp)) Rep.sl_nil Rep.sl_nil⟩, E⟩

theorem c_chk0 (w : World) (us : List Value) (R : Reps [] w EV.plain.D us) (hT : Tab w) (hM : MaxL w) : Calls Tryd.prog 9 [.agg us.toArray].toArray w (Ret fun u w' => u = .int .i64 0 ∧ Mod [] w w') := by
  have := c_check w EV.plain us R EV.plain_ok EV.plain_lens hT hM
  rw [EV.plain_chk] at this
  exact this
theorem c_chk21 (w : World) (hT : Tab w) (hM : MaxL w) : Calls Tryd.prog 9 [.agg [S [], S [], S [], .bool false, S [], .int .i64 0, .bool false, .int .i64 0, S [], .slice none 0 0, .slice none 0 0, .slice none 0 0, .slice none 0 0, .int .i64 0, .int .i64 0, S [], .slice none 0 0].toArray].toArray w (Ret fun u w' => u = .int .i64 21 ∧ Mod [] w w') := by
  have := c_check w EV.nul _ EV.nul_reps EV.nul_ok EV.nul_lens hT hM
  rw [EV.nul_chk] at this
  exact this

theorem c_EventChecks (w : World) (e : EV) (us : List Value) (R : Reps [] w e.D us) (ho : e.ok) (hT : Tab w) (hM : MaxL w) : Calls Tryd.prog 4 [.agg us.toArray].toArray w (Ret fun u w' => u = .bool true ∧ Mod [] w w') := by
  refine enter Tryd.func4 rfl rfl rfl (l := [(0, _)]) ⟨rfl, trivial⟩ ?_
  have E := Mod.refl [] w
  have R0 := R
  obtain ⟨al, cl, am, cm, ap, cp, aa, ca, aS, cS, rfl, Rc, Rp, Ra, Rs⟩ := EV.cells17 R
  refine c_seq fun K1 hK1 => ?_
  refine c_region ?_
  refine s_box rfl rfl rfl fun g1 w1 N1 => ?_
  have Lg1_E := N1.le E
  replace E := E.then N1.mod
  have Bg1 := N1.blk
  refine sv (o_as rfl) rfl ?_
  refine l_nil ?_
  refine e_K (hK1 _ _ _ _ ?_)
  refine c_seq fun K2 hK2 => ?_
  refine c_seq fun K3 hK3 => ?_
  refine c_region ?_
  refine sc (o_call ent10 rfl) (c_plainE _) rfl fun v_ w2 h_ => ?_
  obtain ⟨⟨us9, rfl, R9⟩, E_⟩ := h_
  replace Bg1 := Bg1.mod0 E_
  replace E := E.then E_
  have hne1 : ¬ ((0 : Int) ≠ 0) := by decide
  have hne2 : ¬ ((21 : Int) ≠ 21) := by decide
  refine sc (o_call ent9 rfl) (c_chk0 _ _ R9 (hT.mod E (by simp)) (hM.mod0 E)) rfl fun v_ w3 h_ => ?_
  obtain ⟨rfl, E_⟩ := h_
  replace Bg1 := Bg1.mod0 E_
  replace E := E.then E_
  refine sv (o_neq rfl rfl) rfl ?_
  refine sv (o_mv rfl) rfl ?_
  refine sg rfl (decide_eq_false hne1) (o_build (cs := [_, _, _, _, _, _, _, _, _, _, _, _, _, _, _, _, _]) pl33 zv33 rfl rfl) rfl ?_
  refine sgc rfl (decide_eq_false hne1) (o_call ent9 rfl) (c_chk21 _ (hT.mod E (by simp)) (hM.mod0 E)) rfl fun v_ w4 h_ => ?_
  obtain ⟨rfl, E_⟩ := h_
  replace Bg1 := Bg1.mod0 E_
  replace E := E.then E_
  refine sg rfl (decide_eq_false hne1) (o_neq rfl rfl) rfl ?_
  refine sv (o_pickF (decide_eq_false hne1) rfl rfl) rfl ?_
  refine l_nil ?_
  refine e_K (hK3 _ _ _ _ ?_)
  refine c_if rfl (fun h10 => absurd h10 hne2) (fun h10 => ?_)
  refine c_skip ?_
  refine e_K (hK2 _ _ _ _ ?_)
  refine c_seq fun K4 hK4 => ?_
  by_cases hk0 : (e.great 8192) = true
  · skip
    refine c_draw wide (by kernel_rfl) ?_
    refine tv (fun w_ E_ => (o_lda (vs := [_, _, _, _, _, _, _, _, _, _, _, _, _, _, _, _, _]) ag33 rfl rfl ((Bg1.mod0 E_).cs rfl))) rfl rfl ?_
    refine tc (fun w_ E_ => o_call ent11 rfl) (fun w_ E_ => c_great11 _ e _ 8192 (R.to0 (E.then E_)) ho (by omega)) rfl rfl ?_
    refine tv (fun w_ E_ => (o_mv rfl)) rfl rfl ?_
    refine tn rfl (fun e_ => absurd ((hk0).symm.trans e_) (by decide)) rfl ?_
    refine tn rfl (fun e_ => absurd ((hk0).symm.trans e_) (by decide)) rfl ?_
    refine tn rfl (fun e_ => absurd ((hk0).symm.trans e_) (by decide)) rfl ?_
    refine tn rfl (fun e_ => absurd ((hk0).symm.trans e_) (by decide)) rfl ?_
    refine tn rfl (fun e_ => absurd ((hk0).symm.trans e_) (by decide)) rfl ?_
    refine tv (fun w_ E_ => (o_pickT (hk0) rfl rfl)) rfl rfl ?_
    refine tv (fun w_ E_ => (o_as rfl)) rfl rfl ?_
    refine tw_nil rfl fun w5 E_ => ?_
    replace Bg1 := Bg1.mod0 E_
    replace E := E.then E_
    refine e_K (hK4 _ _ _ _ ?_)
    refine c_ret ?_
    exact ret1 rfl rfl ⟨by first | rfl | exact congrArg Value.bool (decide_eq_true rfl), E⟩
  · skip
    refine c_draw wide (by kernel_rfl) ?_
    refine tv (fun w_ E_ => (o_lda (vs := [_, _, _, _, _, _, _, _, _, _, _, _, _, _, _, _, _]) ag33 rfl rfl ((Bg1.mod0 E_).cs rfl))) rfl rfl ?_
    refine tc (fun w_ E_ => o_call ent11 rfl) (fun w_ E_ => c_great11 _ e _ 8192 (R.to0 (E.then E_)) ho (by omega)) rfl rfl ?_
    refine tv (fun w_ E_ => (o_mv rfl)) rfl rfl ?_
    refine tvg rfl (Bool.eq_false_iff.2 hk0) (fun w_ E_ => (o_lda (vs := [_, _, _, _, _, _, _, _, _, _, _, _, _, _, _, _, _]) ag33 rfl rfl ((Bg1.mod0 E_).cs rfl))) rfl rfl ?_
    refine tcg rfl (Bool.eq_false_iff.2 hk0) (fun w_ E_ => o_call ent9 rfl) (fun w_ E_ => c_check _ e _ (R.to0 (E.then E_)) ho (EV.lens_of (Bool.eq_false_iff.2 hk0)) (hT.mod (E.then E_) (by simp)) (hM.mod0 (E.then E_))) rfl rfl ?_
    refine tvg rfl (Bool.eq_false_iff.2 hk0) (fun w_ E_ => (o_lda (vs := [_, _, _, _, _, _, _, _, _, _, _, _, _, _, _, _, _]) ag33 rfl rfl ((Bg1.mod0 E_).cs rfl))) rfl rfl ?_
    refine tcg rfl (Bool.eq_false_iff.2 hk0) (fun w_ E_ => o_call ent12 rfl) (fun w_ E_ => c_checkR _ e _ (R.to0 (E.then E_)) ho (hT.mod (E.then E_) (by simp))) rfl rfl ?_
    refine tvg rfl (Bool.eq_false_iff.2 hk0) (fun w_ E_ => (o_eql rfl rfl)) rfl rfl ?_
    refine tv (fun w_ E_ => (o_pickF (Bool.eq_false_iff.2 hk0) rfl rfl)) rfl rfl ?_
    refine tv (fun w_ E_ => (o_as rfl)) rfl rfl ?_
    refine tw_nil rfl fun w6 E_ => ?_
    replace Bg1 := Bg1.mod0 E_
    replace E := E.then E_
    refine e_K (hK4 _ _ _ _ ?_)
    refine c_ret ?_
    exact ret1 rfl rfl ⟨by first | rfl | exact congrArg Value.bool (decide_eq_true rfl), E⟩
end Go.Proofs.YtkhbnhdlelmbnaaDoor.V
