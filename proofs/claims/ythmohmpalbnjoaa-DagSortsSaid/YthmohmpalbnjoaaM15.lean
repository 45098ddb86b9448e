/-
  A part of the proof: walks of functions. No condition of its own.
-/
import Derived.Test.YthmohmpalbnjoaaM13
import Derived.Test.YthmohmpalbnjoaaM14
import Derived.Test.YthmohmpalbnjoaaM12
import Derived.Test.YthmohmpalbnjoaaM7
set_option linter.unusedVariables false
set_option linter.unusedSimpArgs false
set_option maxRecDepth 10000
namespace Go.Proofs.Ythmohmpalbnjoaa.V
open Go Go.Proofs
theorem sl64 : slB Try.prog 64 63 1 8 = true := by kernel_rfl
theorem zb63 : (Try.prog.info? 63).bind (·.zero) = some (.pointer none) := by kernel_rfl
theorem pl66 : plB Try.prog 66 [(0, 1), (1, 3), (4, 1), (5, 1)] = true := by kernel_rfl
theorem zv66 : zvB Try.prog 66 ([S [], .int .i64 0, .int .i64 0, S [], .int .i64 0, .slice none 0 0]) := by unfold zvB; kernel_rfl
theorem fd66_2 : fdB Try.prog 66 2 4 1 = true := by kernel_rfl
theorem ent30 : Ent Try.prog 30 := Ent.of Try.func30 (by kernel_rfl) (by kernel_rfl)
theorem fd66_3 : fdB Try.prog 66 3 5 1 = true := by kernel_rfl
theorem sc64 : scB Try.prog 64 = true := by kernel_rfl
theorem ent32 : Ent Try.prog 32 := Ent.of Try.func32 (by kernel_rfl) (by kernel_rfl)
set_option maxHeartbeats 1000000 in
theorem c_order (A : List Nat) (w : World) (g bA bB : Nat) (m : Gm) (G : Gr 83 A w g bA bB m) (ids : List Str) (v1 : Value) (R1 : Rep [] w (strD ids) v1) (rks : List Rk) (v2 : Value) (R2 : Rep [] w (rksD rks) v2) (hn : ids.length ≤ 100000) : Calls Try.prog 13 [.pointer (some ⟨g, 0, none⟩), v1, v2].toArray w (Ret fun u w' => ∃ v', u = .tuple #[v', .int .i64 (ordG m ids rks).2] ∧ OwnS w' 9 v' (ordG m ids rks).1 ∧ (∀ y ∈ ob v', w.heap.size ≤ y) ∧ Mod [] w w') := by
  refine enter Try.func13 rfl rfl rfl (l := [(0, _), (1, _), (2, _)]) ⟨rfl, rfl, rfl, trivial⟩ ?_
  have E := Mod.refl [] w
  obtain ⟨ad1, c1, rfl, h11, h12⟩ := flat_len R1
  obtain ⟨ad2, c2, rfl, h21, h22⟩ := flat_len R2
  refine c_seq fun K1 hK1 => ?_
  refine c_region ?_
  refine sv (o_as rfl) rfl ?_
  refine sv (o_as rfl) rfl ?_
  refine l_nil ?_
  refine e_K (hK1 _ _ _ _ ?_)
  refine c_seq fun K2 hK2 => ?_
  refine c_block ?_
  refine c_seq fun K3 hK3 => ?_
  refine c_region ?_
  refine sv (o_mv rfl) rfl ?_
  refine sv (o_peq Try.underlying29 rfl rfl) rfl ?_
  refine sv (o_as rfl) rfl ?_
  refine l_nil ?_
  refine e_K (hK3 _ _ _ _ ?_)
  refine c_false rfl ?_
  refine c_seq fun K4 hK4 => ?_
  refine c_region ?_
  refine sv (o_mv rfl) rfl ?_
  refine sv (o_len Try.underlying23 rfl) rfl ?_
  refine sv (o_mv rfl) rfl ?_
  refine sv (o_len Try.underlying24 rfl) rfl ?_
  refine sv (o_neq rfl rfl) rfl ?_
  refine sv (o_as rfl) rfl ?_
  refine l_nil ?_
  refine e_K (hK4 _ _ _ _ ?_)
  refine c_if rfl (fun h23 => ?_) (fun h23 => ?_)
  · skip
    refine c_seq fun K5 hK5 => ?_
    refine c_region ?_
    refine sv (o_as rfl) rfl ?_
    refine sv (o_as rfl) rfl ?_
    refine l_nil ?_
    refine e_K (hK5 _ _ _ _ ?_)
    refine c_ret ?_
    refine e_in (by simp) ?_
    refine e_then (by simp) ?_
    exact ret2 rfl rfl rfl ⟨_, by rw [ordG_arg (by omega)], by rw [ordG_arg (by omega)]; exact OwnS.nil _ _, by simp [ob], E⟩
  · skip
    have hlr : ids.length = rks.length := by omega
    refine c_skip ?_
    refine e_in (by simp) ?_
    refine e_K (hK2 _ _ _ _ ?_)
    refine c_seq fun K6 hK6 => ?_
    refine c_region ?_
    refine s_mmap rfl fun bI w1 HbI NbI MbI => ?_
    have LbI_E : w.heap.size ≤ bI := by have := E.size; omega
    replace E := E.then MbI
    refine sv (o_as rfl) rfl ?_
    refine l_nil ?_
    refine e_K (hK6 _ _ _ _ ?_)
    refine c_seq fun K7 hK7 => ?_
    refine c_seq fun K8 hK8 => ?_
    refine c_region ?_
    refine sv (o_mv rfl) rfl ?_
    refine sv (o_len Try.underlying23 rfl) rfl ?_
    refine sv (o_mv rfl) rfl ?_
    refine l_nil ?_
    refine e_K (hK8 _ _ _ _ ?_)
    refine c_block ?_
    refine c_loop (σ := Nat × (Nat → Nat) × List (Str × Value)) (fun ⟨i, pt, mI⟩ => [(0, .pointer (some ⟨g, 0, none⟩)), (1, .slice ad1 ids.length c1), (2, .slice ad2 rks.length c2), (8, .map (some bI)), (30, .slice ad1 ids.length c1), (31, .int .i64 ids.length), (32, .int .i64 (i : Int))]) (fun ⟨i, pt, mI⟩ w1 => i ≤ ids.length ∧ (ids.take i).Nodup ∧ P0 66 ids rks w w1 i pt mI ∧ MapB w1 bI mI ∧ Mod [] w w1) (fun ⟨i, pt, mI⟩ => ids.length - i) (⟨0, fun _ => 0, []⟩) ⟨rfl, rfl, rfl, rfl, rfl, rfl, rfl, trivial⟩ (⟨by omega, by simp, P0.nil, HbI, E⟩) ?_
    rintro ⟨i, pt, mI⟩ w2 ⟨hi, hnd, hP, HM, E⟩
    refine c_seq fun K9 hK9 => ?_
    refine c_region ?_
    refine sv (o_lss rfl rfl) rfl ?_
    refine l_nil ?_
    refine e_K (hK9 _ _ _ _ ?_)
    refine c_seq fun K10 hK10 => ?_
    refine c_if rfl (fun h33 => ?_) (fun h33 => ?_)
    · skip
      have hlt : i < ids.length := by omega
      obtain ⟨x, hx_x⟩ : ∃ x, (ids)[i]? = some x := ⟨_, List.getElem?_eq_getElem (by omega)⟩
      obtain ⟨a_x, ha_x, hcs_x, _⟩ := flat_at (R1.to0 E) hx_x
      obtain rfl := ha_x
      obtain ⟨r, hx_r⟩ : ∃ x, (rks)[i]? = some x := ⟨_, List.getElem?_eq_getElem (by omega)⟩
      obtain ⟨a_r, ha_r, hcs_r, _⟩ := flat_at (R2.to0 E) hx_r
      obtain rfl := ha_r
      refine c_skip ?_
      refine e_K (hK10 _ _ _ _ ?_)
      refine c_seq fun K11 hK11 => ?_
      refine c_block ?_
      refine c_seq fun K12 hK12 => ?_
      refine c_region ?_
      refine sv (o_mv rfl) rfl ?_
      refine sv (o_ix sl23 rfl rfl (by omega)) rfl ?_
      refine sv (o_ld sc9 rfl hcs_x.c0) rfl ?_
      refine sv (o_as rfl) rfl ?_
      refine sv (o_as rfl) rfl ?_
      refine l_nil ?_
      refine e_K (hK12 _ _ _ _ ?_)
      refine c_seq fun K13 hK13 => ?_
      refine c_seq fun K14 hK14 => ?_
      by_cases hdup : x ∈ ids.take i
      · skip
        obtain ⟨kk, hkk, hkn⟩ := mem_take_nm hdup
        refine c_region ?_
        refine sv (o_mv rfl) rfl ?_
        refine sv (o_mv rfl) rfl ?_
        refine sv ((o_lk Try.underlying62 Try.underlying9 zb63 rfl (.inr ⟨_, rfl, HM⟩) rfl).to (v' := .pointer (some ⟨pt kk, 0, none⟩)) (by rw [← hkn, hP.lk kk hkk]; rfl)) rfl ?_
        refine sv ((o_pne Try.underlying63 rfl rfl)) rfl ?_
        refine l_nil ?_
        refine e_K (hK14 _ _ _ _ ?_)
        refine c_true rfl ?_
        refine c_seq fun K15 hK15 => ?_
        refine c_region ?_
        refine sv (o_as rfl) rfl ?_
        refine sv (o_as rfl) rfl ?_
        refine l_nil ?_
        refine e_K (hK15 _ _ _ _ ?_)
        refine c_ret ?_
        refine e_then (by simp) ?_
        refine e_in (by simp) ?_
        refine e_then (by simp) ?_
        refine e_then (by simp) ?_
        refine e_in (by simp) ?_
        refine e_then (by simp) ?_
        exact ret2 rfl rfl rfl ⟨_, by rw [ordG_twice hlr (dup_take hx_x hdup)], by rw [ordG_twice hlr (dup_take hx_x hdup)]; exact OwnS.nil _ _, by simp [ob], E⟩
      · skip
        skip
        refine c_region ?_
        refine sv (o_mv rfl) rfl ?_
        refine sv (o_mv rfl) rfl ?_
        refine sv ((o_lk Try.underlying62 Try.underlying9 zb63 rfl (.inr ⟨_, rfl, HM⟩) rfl).to (v' := .pointer none) (by rw [hP.no hdup]; rfl)) rfl ?_
        refine sv ((o_pne Try.underlying63 rfl rfl)) rfl ?_
        refine l_nil ?_
        refine e_K (hK14 _ _ _ _ ?_)
        refine c_false rfl ?_
        refine c_skip ?_
        refine e_K (hK13 _ _ _ _ ?_)
        refine c_region ?_
        refine sv (o_mv rfl) rfl ?_
        refine sv (o_mv rfl) rfl ?_
        refine sv (o_mv rfl) rfl ?_
        refine sv (o_mv rfl) rfl ?_
        refine sv (o_mv rfl) rfl ?_
        refine sv (o_ix sl24 rfl rfl (by omega)) rfl ?_
        refine sv (o_lda ag44 rfl rfl hcs_r) rfl ?_
        refine sv (o_build (cs := [_, _, _, _, _, _]) pl66 zv66 rfl rfl) rfl ?_
        have hlts : ∀ k, k < i → pt k < w2.heap.size := fun k hk => (hP.it k hk).lt
        refine s_box rfl rfl rfl fun g1 w3 N1 => ?_
        have Lg1_E := N1.le E
        replace hP := hP.mod0 N1.mod
        replace HM := HM.mod0 N1.mod
        replace E := E.then N1.mod
        have Bg1 := N1.blk
        have hPn := hP.next hx_x hx_r hdup Bg1 Lg1_E (fun k hk e => by have := hlts k hk; have := N1.at_; omega)
        refine s_mset Try.underlying62 Try.underlying9 rfl HM rfl rfl fun w4 HM2 ES => ?_
        replace hPn := hPn.modM ES (fun j hj hx => (hPn.it j hj).ne_map HM (by simpa using hx))
        replace E := E.trans' ES (fun y hy => .inr (by simp at hy; subst hy; exact LbI_E))
        refine l_nil ?_
        refine e_in (by simp) ?_
        refine e_K (hK11 _ _ _ _ ?_)
        refine c_region ?_
        refine sv (o_addN rfl rfl (by omega)) rfl ?_
        refine sv (o_mv rfl) rfl ?_
        refine l_nil ?_
        exact e_round (σ := Nat × (Nat → Nat) × List (Str × Value)) (s := ⟨i, pt, mI⟩) (⟨i + 1, upd pt i g1, setM mI x (.pointer (some ⟨g1, 0, none⟩))⟩) ⟨rfl, rfl, rfl, rfl, rfl, rfl, rfl, trivial⟩ ⟨by omega, nodup_take_succ hnd hx_x hdup, hPn, HM2, E⟩ (by dsimp only; omega)
    · skip
      have hin : i = ids.length := by omega
      subst hin
      have hnds : ids.Nodup := by rwa [List.take_of_length_le (Nat.le_refl _)] at hnd
      have hMI : MI ids pt mI := ⟨fun k hk => hP.lk k hk, fun x hx => hP.no (by rwa [List.take_of_length_le (Nat.le_refl _)])⟩
      have hAc := prG_acyc G.wf hnds
      have hSo := ltG_so (rks := rks) hnds
      refine c_exit ?_
      refine e_then (by simp) ?_
      refine e_then (by simp) ?_
      refine e_hit ?_
      refine e_K (hK7 _ _ _ _ ?_)
      refine c_seq fun K16 hK16 => ?_
      refine c_region ?_
      refine s_bslice (cs := []) sl68 zv63 rfl rfl rfl (by decide) rfl fun g2 w5 N2 => ?_
      have Lg2_E := N2.le E
      replace hP := hP.mod0 N2.mod
      replace HM := HM.mod0 N2.mod
      replace E := E.then N2.mod
      have Bg2 := N2.blk
      refine s_box rfl rfl rfl fun g3 w6 N3 => ?_
      have Lg3_E := N3.le E
      have Dg2_g3 := N3.ne Bg2
      replace hP := hP.mod0 N3.mod
      replace HM := HM.mod0 N3.mod
      replace Bg2 := Bg2.mod0 N3.mod
      replace E := E.then N3.mod
      have Bg3 := N3.blk
      obtain ⟨gr, hgr⟩ : ∃ y, y = g3 := ⟨_, rfl⟩
      subst hgr
      refine sv (o_as rfl) rfl ?_
      refine l_nil ?_
      refine e_K (hK16 _ _ _ _ ?_)
      refine c_seq fun K17 hK17 => ?_
      refine c_seq fun K18 hK18 => ?_
      refine c_region ?_
      refine sv (o_mv rfl) rfl ?_
      refine sv (o_len Try.underlying23 rfl) rfl ?_
      refine sv (o_mv rfl) rfl ?_
      refine l_nil ?_
      refine e_K (hK18 _ _ _ _ ?_)
      refine c_block ?_
      refine c_loop (σ := Nat × (Nat → Int) × (Nat → Value) × Value × List Nat) (fun ⟨i, lf, lv, hv, h⟩ => [(0, .pointer (some ⟨g, 0, none⟩)), (1, .slice ad1 ids.length c1), (2, .slice ad2 rks.length c2), (8, .map (some bI)), (11, .pointer (some ⟨gr, 0, none⟩)), (53, .slice ad1 ids.length c1), (54, .int .i64 ids.length), (55, .int .i64 (i : Int))]) (fun ⟨i, lf, lv, hv, h⟩ w1 => i ≤ ids.length ∧ (∀ x ∈ ids.take i, (look m x).isSome = true) ∧ OF 66 63 68 w w1 gr (Its.mk1 ids rks pt lf lv) (lat (prG m ids) i) hv h ∧ LF (prG m ids) ids.length i 0 lf ∧ Heap (ltG ids rks) h h.length ∧ h.Nodup ∧ (∀ k, k ∈ h ↔ k < i ∧ cnt (prG m ids) ids.length [] k = 0) ∧ MapB w1 bI mI ∧ Mod [] w w1) (fun ⟨i, lf, lv, hv, h⟩ => ids.length - i) (⟨0, fun _ => 0, fun _ => .slice none 0 0, .slice (some ⟨g2, 0, none⟩) 0 0, []⟩) ⟨rfl, rfl, rfl, rfl, rfl, rfl, rfl, rfl, trivial⟩ (⟨by omega, by simp, P0.of hP Bg3 Bg2 Lg3_E Lg2_E (by decide) (prG m ids), LF.init, fun c hc => by simp at hc, List.nodup_nil, fun k => ⟨fun h => by simp at h, fun h => by omega⟩, HM, E⟩) ?_
      rintro ⟨i, lf, lv, hv, h⟩ w7 ⟨hi, hin2, F, hLF, H, hnd2, hmem, HM, E⟩
      refine c_seq fun K19 hK19 => ?_
      refine c_region ?_
      refine sv (o_lss rfl rfl) rfl ?_
      refine l_nil ?_
      refine e_K (hK19 _ _ _ _ ?_)
      refine c_seq fun K20 hK20 => ?_
      refine c_if rfl (fun h56 => ?_) (fun h56 => ?_)
      · skip
        have hlt : i < ids.length := by omega
        obtain ⟨x, hx_x⟩ : ∃ x, (ids)[i]? = some x := ⟨_, List.getElem?_eq_getElem (by omega)⟩
        obtain ⟨a_x, ha_x, hcs_x, _⟩ := flat_at (R1.to0 E) hx_x
        obtain rfl := ha_x
        refine c_skip ?_
        refine e_K (hK20 _ _ _ _ ?_)
        refine c_seq fun K21 hK21 => ?_
        refine c_block ?_
        refine c_seq fun K22 hK22 => ?_
        refine c_region ?_
        refine sv (o_ix sl23 rfl rfl (by omega)) rfl ?_
        refine sv (o_ld sc9 rfl hcs_x.c0) rfl ?_
        refine sv (o_as rfl) rfl ?_
        refine l_nil ?_
        refine e_K (hK22 _ _ _ _ ?_)
        refine c_seq fun K23 hK23 => ?_
        refine c_seq fun K24 hK24 => ?_
        refine c_region ?_
        refine sv (o_mv rfl) rfl ?_
        refine sv (o_mv rfl) rfl ?_
        refine sc (o_call ent20 rfl) (c_has A _ g bA bB m (G.mod0 E) x) rfl fun v_ w8 h_ => ?_
        obtain ⟨rfl, E_⟩ := h_
        replace F := F.mod0 E_
        replace HM := HM.mod0 E_
        replace E := E.then E_
        refine sv (o_not rfl) rfl ?_
        refine l_nil ?_
        refine e_K (hK24 _ _ _ _ ?_)
        refine c_cond rfl (fun h62 => ?_) (fun h62 => ?_)
        · skip
          refine c_seq fun K25 hK25 => ?_
          refine c_region ?_
          refine sv (o_as rfl) rfl ?_
          refine sv (o_as rfl) rfl ?_
          refine l_nil ?_
          refine e_K (hK25 _ _ _ _ ?_)
          refine c_ret ?_
          refine e_then (by simp) ?_
          refine e_in (by simp) ?_
          refine e_then (by simp) ?_
          refine e_then (by simp) ?_
          refine e_in (by simp) ?_
          refine e_then (by simp) ?_
          exact ret2 rfl rfl rfl ⟨_, by rw [ordG_none hlr hnds (List.mem_of_getElem? hx_x) (not_keys (by simpa using h62))], by rw [ordG_none hlr hnds (List.mem_of_getElem? hx_x) (not_keys (by simpa using h62))]; exact OwnS.nil _ _, by simp [ob], E⟩
        · skip
          refine c_skip ?_
          refine e_K (hK23 _ _ _ _ ?_)
          refine c_seq fun K26 hK26 => ?_
          refine c_seq fun K27 hK27 => ?_
          refine c_region ?_
          refine sv (o_mv rfl) rfl ?_
          refine sv (o_mv rfl) rfl ?_
          refine s_bslice (cs := [_]) sl23 zv9 rfl rfl rfl (by decide) rfl fun g4 w9 N4 => ?_
          have Lg4_E := N4.le E
          replace F := F.mod0 N4.mod
          replace HM := HM.mod0 N4.mod
          replace E := E.then N4.mod
          have Bg4 := N4.blk
          have hEs := E.size
          refine sc (o_call ent29 rfl) (c_past A _ g bA bB m (G.mod0 E) [x] _ (OwnS.rep [] (OwnS.to (Own.all (cs := [_]) Bg4 rfl (by omega)) rfl rfl) (by simp)) (by simp)) rfl fun v_ w10 h_ => ?_
          obtain ⟨bS, mp, rfl, HS, hmp, LbS, E_⟩ := h_
          replace F := F.mod0 E_
          replace HM := HM.mod0 E_
          replace Bg4 := Bg4.mod0 E_
          replace E := E.then E_
          have LbSw : w.heap.size ≤ bS := by have := E.size; omega
          refine s_mrange Try.underlying69 rfl HS rfl fun gi w11 J Ngi Mgi => ?_
          have Lgi : w.heap.size ≤ gi := by have := E.size; omega
          replace F := F.mod0 Mgi
          replace HM := HM.mod0 Mgi
          replace Bg4 := Bg4.mod0 Mgi
          replace E := E.then Mgi
          refine l_nil ?_
          refine e_K (hK27 _ _ _ _ ?_)
          refine c_block ?_
          refine c_loop (σ := List Str × Option (Str × Value) × (Nat → Int) × (Nat → Value)) (fun ⟨Lr, last, lg, lw⟩ => [(0, .pointer (some ⟨g, 0, none⟩)), (1, .slice (some a_x) ids.length c1), (2, .slice ad2 rks.length c2), (8, .map (some bI)), (11, .pointer (some ⟨gr, 0, none⟩)), (13, S x), (53, .slice (some a_x) ids.length c1), (54, .int .i64 ids.length), (55, .int .i64 (i : Int)), (67, .pointer (some ⟨gi, 0, none⟩))]) (fun ⟨Lr, last, lg, lw⟩ w1 => (∀ q ∈ Lr, q ∈ (mp.map (·.1))) ∧ MIt w1 gi bS mp Lr last ∧ OF 66 63 68 w w1 gr (Its.mk1 ids rks pt lg lw) (latM (prG m ids) ids i (mp.map (·.1)) Lr) hv h ∧ LF (prG m ids) ids.length i (met ids.length (nm ids) (fun x => decide (x ∈ (mp.map (·.1))) && decide (x ∉ Lr)) i) lg ∧ MapB w1 bI mI ∧ Mod [] w w1) (fun ⟨Lr, last, lg, lw⟩ => Lr.length) (⟨(mp.map (·.1)), none, lf, lv⟩) ⟨rfl, rfl, rfl, rfl, rfl, rfl, rfl, rfl, rfl, rfl, trivial⟩ (⟨fun q hq => hq, J, F.congr (fun k _ => latM_start k), by rw [met_none (fun k _ => by simp)]; exact hLF, HM, E⟩) ?_
          rintro ⟨Lr, last, lg, lw⟩ w12 ⟨hsub, J, F, hLF, HM, E⟩
          refine c_seq fun K28 hK28 => ?_
          refine c_region ?_
          refine s_mnext rfl J rfl (fun hL0 => ?_) (fun key vk w13 hkL hvk J2 EI => ?_)
          · skip
            subst hL0
            have hK : ∀ x, x ∈ (mp.map (·.1)) ↔ x ∈ past m [nm ids i] := fun y => by rw [hmp, past_mem G.wf, nm_at hx_x]
            have F0 := F.congr (fun k _ => (latM_end hK k).symm)
            have hcnt := met_all (n := ids.length) (pr := (prG m ids)) (i := i) (id := nm ids) (Dn := fun x => decide (x ∈ (mp.map (·.1))) && decide (x ∉ ([] : List Str))) (fun k _ => by unfold prG; simp [hK])
            have hLFn := hLF.next hcnt
            have hlgi : lg i = ((cnt (prG m ids) ids.length [] i : Nat) : Int) := by rw [hLF.at_ hlt, hcnt]
            refine sv (o_ext rfl rfl) rfl ?_
            refine l_nil ?_
            refine e_K (hK28 _ _ _ _ ?_)
            refine c_seq fun K29 hK29 => ?_
            refine c_false rfl ?_
            refine c_exit ?_
            refine e_then (by simp) ?_
            refine e_then (by simp) ?_
            refine e_hit ?_
            refine e_K (hK26 _ _ _ _ ?_)
            refine c_seq fun K30 hK30 => ?_
            refine c_region ?_
            refine sv (o_mv rfl) rfl ?_
            refine sv (o_mv rfl) rfl ?_
            refine sv ((o_lk Try.underlying62 Try.underlying9 zb63 rfl (.inr ⟨_, rfl, HM⟩) rfl).to (v' := .pointer (some ⟨pt i, 0, none⟩)) (by rw [← nm_at hx_x, hMI.lk i hlt]; rfl)) rfl ?_
            refine sv (o_nilc rfl) rfl ?_
            refine sv (o_fa0 fd66_2 rfl) rfl ?_
            refine sv (o_ld sc3 rfl ((F0.it i hlt).cell rfl)) rfl ?_
            refine sv (o_eql rfl rfl) rfl ?_
            refine l_nil ?_
            refine e_K (hK30 _ _ _ _ ?_)
            refine c_if rfl (fun h109 => ?_) (fun h109 => ?_)
            · skip
              have hl0 : lg i = 0 := h109
              have hc0 : cnt (prG m ids) ids.length [] i = 0 := by omega
              have hnI : ∀ x ∈ h, x < (Its.mk1 ids rks pt lg lw).n := fun x hx => by have := ((hmem x).1 hx).1; show x < ids.length; omega
              have hlI : h.length ≤ 100000 := Nat.le_trans (F0.len hnd2 hnI) hn
              refine c_region ?_
              refine sv (o_mv rfl) rfl ?_
              refine sv (o_mki Try.underlying67 rfl rfl) rfl ?_
              refine sv (o_mv rfl) rfl ?_
              refine sv (o_mv rfl) rfl ?_
              refine sv ((o_lk Try.underlying62 Try.underlying9 zb63 rfl (.inr ⟨_, rfl, HM⟩) rfl).to (v' := .pointer (some ⟨pt i, 0, none⟩)) (by rw [← nm_at hx_x, hMI.lk i hlt]; rfl)) rfl ?_
              refine sv (o_mki Try.underlying63 rfl rfl) rfl ?_
              refine sc (o_call ent30 rfl) (c_hpush _ (Its.mk1 ids rks pt lg lw) gr hv h F0.br F0.oh F0.it hnI hSo H hlI i hlt) rfl fun v_ w14 h_ => ?_
              obtain ⟨hv2, hh, hp, HH, Br2, O2, hob, EP_⟩ := h_
              replace HM := HM.mod EP_ (fun hx => by rcases List.mem_cons.1 hx with h9 | h9; exact F0.br.ne_map HM h9.symm; exact Own.ne_map F0.oh HM _ h9 rfl)
              have hE0 := E.size
              replace E := E.trans' EP_ (fun x hx => .inr (by rcases List.mem_cons.1 hx with h9 | h9; subst h9; exact F0.ngr; exact F0.nhv x h9))
              have F6 := F0.row EP_ Br2 O2 hob hE0
              refine l_nil ?_
              refine e_in (by simp) ?_
              refine e_K (hK21 _ _ _ _ ?_)
              refine c_region ?_
              refine sv (o_addN rfl rfl (by omega)) rfl ?_
              refine sv (o_mv rfl) rfl ?_
              refine l_nil ?_
              exact e_round (σ := Nat × (Nat → Int) × (Nat → Value) × Value × List Nat) (s := ⟨i, lf, lv, hv, h⟩) (⟨i + 1, lg, lw, hv2, hh⟩) ⟨rfl, rfl, rfl, rfl, rfl, rfl, rfl, rfl, trivial⟩ ⟨by omega, take_all_succ hx_x hin2 (by simpa using h62), F6, hLFn, HH, hp.nodup_iff.2 (nd_snoc hnd2 (fun hx => by have := ((hmem _).1 hx).1; omega)), fun k => by rw [hp.mem_iff, List.mem_append, hmem, List.mem_singleton]; exact ⟨fun hh9 => by rcases hh9 with h9 | h9; exact ⟨by omega, h9.2⟩; subst h9; exact ⟨by omega, hc0⟩, fun h9 => by by_cases e : k = i; exact .inr e; exact .inl ⟨by omega, h9.2⟩⟩, HM, E⟩ (by dsimp only; omega)
            · skip
              have hl0 : ¬ lg i = 0 := h109
              have hc0 : cnt (prG m ids) ids.length [] i ≠ 0 := by omega
              have hnI : ∀ x ∈ h, x < (Its.mk1 ids rks pt lg lw).n := fun x hx => by have := ((hmem x).1 hx).1; show x < ids.length; omega
              have hlI : h.length ≤ 100000 := Nat.le_trans (F0.len hnd2 hnI) hn
              refine c_skip ?_
              refine e_in (by simp) ?_
              refine e_K (hK21 _ _ _ _ ?_)
              refine c_region ?_
              refine sv (o_addN rfl rfl (by omega)) rfl ?_
              refine sv (o_mv rfl) rfl ?_
              refine l_nil ?_
              exact e_round (σ := Nat × (Nat → Int) × (Nat → Value) × Value × List Nat) (s := ⟨i, lf, lv, hv, h⟩) (⟨i + 1, lg, lw, hv, h⟩) ⟨rfl, rfl, rfl, rfl, rfl, rfl, rfl, rfl, trivial⟩ ⟨by omega, take_all_succ hx_x hin2 (by simpa using h62), F0, hLFn, H, hnd2, fun k => by rw [hmem]; exact ⟨fun h9 => ⟨by omega, h9.2⟩, fun h9 => ⟨by by_cases e : k = i; subst e; exact absurd h9.2 hc0; omega, h9.2⟩⟩, HM, E⟩ (by dsimp only; omega)
          · skip
            replace F := F.it_ J EI
            replace HM := HM.mod EI (by simpa using HM.ne_it J)
            replace E := E.trans' EI (fun y hy => .inr (by simp at hy; omega))
            have hkK := hsub key hkL
            refine sv (o_ext rfl rfl) rfl ?_
            refine l_nil ?_
            refine e_K (hK28 _ _ _ _ ?_)
            refine c_seq fun K31 hK31 => ?_
            refine c_true rfl ?_
            refine c_skip ?_
            refine e_K (hK31 _ _ _ _ ?_)
            refine c_block ?_
            refine c_seq fun K32 hK32 => ?_
            refine c_region ?_
            refine sv (o_mentry rfl J2) rfl ?_
            refine sv (o_ext rfl rfl) rfl ?_
            refine sv (o_as rfl) rfl ?_
            refine l_nil ?_
            refine e_K (hK32 _ _ _ _ ?_)
            refine c_seq fun K33 hK33 => ?_
            by_cases hkey : key ∈ ids
            · skip
              obtain ⟨kk, hkk, hkn⟩ := mem_nm hkey
              refine c_region ?_
              refine sv (o_mv rfl) rfl ?_
              refine sv (o_mv rfl) rfl ?_
              refine sv ((o_lk Try.underlying62 Try.underlying9 zb63 rfl (.inr ⟨_, rfl, HM⟩) rfl).to (v' := .pointer (some ⟨pt kk, 0, none⟩)) (by rw [← hkn, hMI.lk kk hkk]; rfl)) rfl ?_
              refine sv (o_as rfl) rfl ?_
              refine l_nil ?_
              refine e_K (hK33 _ _ _ _ ?_)
              refine c_seq fun K34 hK34 => ?_
              by_cases hk80 : key = x
              · skip
                have hk81 : ¬ key ≠ x := fun h => h hk80
                refine c_region ?_
                refine sv (o_mv rfl) rfl ?_
                refine sv ((o_pne Try.underlying63 rfl rfl)) rfl ?_
                refine sv (o_mv rfl) rfl ?_
                refine sg rfl (rfl) (o_mv rfl) rfl ?_
                refine sg rfl (rfl) (o_mv rfl) rfl ?_
                refine sg rfl (rfl) (o_sne rfl rfl) rfl ?_
                refine sv (o_pickT (rfl) rfl rfl) rfl ?_
                refine l_nil ?_
                refine e_K (hK34 _ _ _ _ ?_)
                refine c_if rfl (fun h81 => absurd h81 hk81) (fun h81 => ?_)
                have hno : ∀ k, k < ids.length → nm ids k = key → k = i := fun k hk e => nm_inj hnds hk hlt (by rw [e, hk80, nm_at hx_x])
                refine c_skip ?_
                refine e_in (by simp) ?_
                exact e_round (σ := List Str × Option (Str × Value) × (Nat → Int) × (Nat → Value)) (s := ⟨Lr, last, lg, lw⟩) (⟨Lr.filter (fun q => decide (q ≠ key)), some (key, vk), lg, lw⟩) ⟨rfl, rfl, rfl, rfl, rfl, rfl, rfl, rfl, rfl, rfl, trivial⟩ ⟨fun q hq => hsub q (List.mem_filter.1 hq).1, J2, F.congr (fun k hk => latM_no hno k hk), by rw [met_step (i := i) hnds hkK hkL, if_neg (fun ⟨k, h1, h2, h3⟩ => h2 (hno k h1 h3)), Nat.add_zero]; exact hLF, HM, E⟩ (by dsimp only; exact filter_lt hkL)
              · skip
                have hk81 : key ≠ x := hk80
                refine c_region ?_
                refine sv (o_mv rfl) rfl ?_
                refine sv ((o_pne Try.underlying63 rfl rfl)) rfl ?_
                refine sv (o_mv rfl) rfl ?_
                refine sg rfl (rfl) (o_mv rfl) rfl ?_
                refine sg rfl (rfl) (o_mv rfl) rfl ?_
                refine sg rfl (rfl) (o_sne rfl rfl) rfl ?_
                refine sv (o_pickT (rfl) rfl rfl) rfl ?_
                refine l_nil ?_
                refine e_K (hK34 _ _ _ _ ?_)
                refine c_if rfl (fun h81 => ?_) (fun h81 => absurd hk81 h81)
                have hki : kk ≠ i := fun e => hk80 (by rw [← hkn, e, nm_at hx_x])
                refine c_seq fun K35 hK35 => ?_
                refine c_drawp [0] [1, 2, 3, 4, 5, 6, 7, 8] 9 [10, 11, 12] wide (by kernel_rfl) (fun _ _ _ h => h.2) ?_
                refine pw (fun _ => (o_mv rfl)) rfl rfl ?_
                refine pw_nil ?_
                refine tv (fun w_ E_ => (o_mv rfl)) rfl rfl ?_
                refine tv (fun w_ E_ => (o_nilc rfl)) rfl rfl ?_
                refine tv (fun w_ E_ => (o_fa0 fd66_3 rfl)) rfl rfl ?_
                refine tv (fun w_ E_ => (o_ld sc64 rfl (((F.it kk hkk).mod0 E_).cell rfl))) rfl rfl ?_
                refine tv (fun w_ E_ => (o_mv rfl)) rfl rfl ?_
                refine tv (fun w_ E_ => (o_mv rfl)) rfl rfl ?_
                refine tv (fun w_ E_ => ((o_lk Try.underlying62 Try.underlying9 zb63 rfl (.inr ⟨_, rfl, HM.mod0 E_⟩) rfl).to (v' := .pointer (some ⟨pt i, 0, none⟩)) (by rw [← nm_at hx_x, hMI.lk i hlt]; rfl))) rfl rfl ?_
                refine t_bslice (cs := [_]) (fun u w_ => Own w_ 63 1 u 1 [(Its.mk1 ids rks pt lg lw).pv i]) (fun v_ w1_ w2_ k_ h_ => h_.mod0 k_) sl64 zv63 rfl rfl rfl (by decide) (fun w_ g w2_ E_ N_ => Own.all (c := 1) N_.blk rfl (by omega)) rfl rfl ?_
                refine tw_tail1 (t := 90) rfl rfl rfl rfl fun w15 v_ E_ OX => ?_
                replace F := F.mod0 E_
                replace HM := HM.mod0 E_
                replace J2 := J2.mod0 E_
                replace E := E.then E_
                have Ola : OwnR (Its.mk1 ids rks pt lg lw) 63 _ (lw kk) (latM (prG m ids) ids i (mp.map (·.1)) Lr kk) := F.la kk hkk
                have hll := @latM_len (prG m ids) ids i (mp.map (·.1)) Lr kk
                refine s_append sl64 rfl rfl Ola (Src.own Try.underlying64 OX (by simp [Value.oneCell'])) (by decide) (by omega) (by omega) rfl fun lv2 w16 AA => ?_
                have Bk := (F.it kk hkk).mod AA.mod (F.pt_lv hkk hkk)
                have hE0 := E.size
                have hob := Own.ne_itb Ola J2
                replace HM := HM.mod AA.mod (fun hx => Own.ne_map Ola HM _ hx rfl)
                replace J2 := J2.mod AA.mod (fun hx => (hob _ hx).1 rfl) (fun hx => (hob _ hx).2 rfl)
                replace E := E.trans' AA.mod (fun x hx => .inr (F.nlv kk hkk x hx))
                refine sv (o_nilc rfl) rfl ?_
                refine sv (o_fa0 fd66_3 rfl) rfl ?_
                refine s_st sc64 Bk rfl rfl (by obtain ⟨_, _, e_, _⟩ := AA.own.form; subst e_; rfl) (by simp) fun w17 PZ => ?_
                have F2 := F.app (i := i) hkk AA rfl rfl PZ rfl hE0
                replace HM := HM.mod PZ.mod (by simpa using Ne.symm (Bk.ne_map HM))
                replace J2 := J2.mod PZ.mod (by simpa using Ne.symm (Bk.ne_it J2).1) (by simpa using Ne.symm (Bk.ne_it J2).2)
                replace E := E.trans' PZ.mod (fun x hx => .inr (by simp at hx; subst hx; exact F.npt kk hkk))
                clear F
                have F : OF 66 63 68 w w17 gr (Its.mk1 ids rks pt lg (upd lw kk lv2)) (latM (prG m ids) ids i (mp.map (·.1)) (Lr.filter fun q => decide (q ≠ key))) hv h := F2.congr (fun k hk => latM_yes hnds hkk hkn hki hkK hkL k hk)
                refine l_nil ?_
                refine e_K (hK35 _ _ _ _ ?_)
                refine c_region ?_
                refine sv (o_mv rfl) rfl ?_
                refine sv (o_mv rfl) rfl ?_
                refine sv ((o_lk Try.underlying62 Try.underlying9 zb63 rfl (.inr ⟨_, rfl, HM⟩) rfl).to (v' := .pointer (some ⟨pt i, 0, none⟩)) (by rw [← nm_at hx_x, hMI.lk i hlt]; rfl)) rfl ?_
                refine sv (o_nilc rfl) rfl ?_
                refine sv (o_fa0 fd66_2 rfl) rfl ?_
                refine sv (o_ld sc3 rfl ((F.it i hlt).cell rfl)) rfl ?_
                refine sv ((o_addN rfl rfl (hLF.bnd hlt met_le hn))) rfl ?_
                refine sv (o_nilc rfl) rfl ?_
                refine sv (o_fa0 fd66_2 rfl) rfl ?_
                have Bi := F.it i hlt
                refine s_st sc3 Bi rfl rfl rfl (by simp) fun w18 PZ2 => ?_
                have F3 : OF 66 63 68 w w18 gr (Its.mk1 ids rks pt (upd lg i (lg i + 1)) (upd lw kk lv2)) (latM (prG m ids) ids i (mp.map (·.1)) (Lr.filter fun q => decide (q ≠ key))) hv h := F.setl hlt PZ2 rfl
                replace HM := HM.mod PZ2.mod (by simpa using Ne.symm (Bi.ne_map HM))
                replace J2 := J2.mod PZ2.mod (by simpa using Ne.symm (Bi.ne_it J2).1) (by simpa using Ne.symm (Bi.ne_it J2).2)
                replace E := E.trans' PZ2.mod (fun x hx => .inr (by simp at hx; subst hx; exact F.npt i hlt))
                have hmet := met_step (i := i) hnds hkK hkL
                rw [if_pos ⟨kk, hkk, hki, hkn⟩] at hmet
                have hLF2 := hLF.inc hlt
                rw [← hmet] at hLF2
                refine l_nil ?_
                refine e_in (by simp) ?_
                exact e_round (σ := List Str × Option (Str × Value) × (Nat → Int) × (Nat → Value)) (s := ⟨Lr, last, lg, lw⟩) (⟨Lr.filter (fun q => decide (q ≠ key)), some (key, vk), upd lg i (lg i + 1), upd lw kk lv2⟩) ⟨rfl, rfl, rfl, rfl, rfl, rfl, rfl, rfl, rfl, rfl, trivial⟩ ⟨fun q hq => hsub q (List.mem_filter.1 hq).1, J2, F3, hLF2, HM, E⟩ (by dsimp only; exact filter_lt hkL)
            · skip
              skip
              refine c_region ?_
              refine sv (o_mv rfl) rfl ?_
              refine sv (o_mv rfl) rfl ?_
              refine sv ((o_lk Try.underlying62 Try.underlying9 zb63 rfl (.inr ⟨_, rfl, HM⟩) rfl).to (v' := .pointer none) (by rw [hMI.no _ hkey]; rfl)) rfl ?_
              refine sv (o_as rfl) rfl ?_
              refine l_nil ?_
              refine e_K (hK33 _ _ _ _ ?_)
              refine c_seq fun K36 hK36 => ?_
              refine c_region ?_
              refine sv (o_mv rfl) rfl ?_
              refine sv ((o_pne Try.underlying63 rfl rfl)) rfl ?_
              refine sv (o_mv rfl) rfl ?_
              refine sn rfl (fun e_ => absurd ((rfl).symm.trans e_) (by decide)) rfl ?_
              refine sn rfl (fun e_ => absurd ((rfl).symm.trans e_) (by decide)) rfl ?_
              refine sn rfl (fun e_ => absurd ((rfl).symm.trans e_) (by decide)) rfl ?_
              refine sv (o_pickF (rfl) rfl rfl) rfl ?_
              refine l_nil ?_
              refine e_K (hK36 _ _ _ _ ?_)
              refine c_false rfl ?_
              have hno : ∀ k, k < ids.length → nm ids k = key → k = i := fun k hk e => absurd (e ▸ (by simp [nm, List.getElem?_eq_getElem hk] : nm ids k ∈ ids)) hkey
              refine c_skip ?_
              refine e_in (by simp) ?_
              exact e_round (σ := List Str × Option (Str × Value) × (Nat → Int) × (Nat → Value)) (s := ⟨Lr, last, lg, lw⟩) (⟨Lr.filter (fun q => decide (q ≠ key)), some (key, vk), lg, lw⟩) ⟨rfl, rfl, rfl, rfl, rfl, rfl, rfl, rfl, rfl, rfl, trivial⟩ ⟨fun q hq => hsub q (List.mem_filter.1 hq).1, J2, F.congr (fun k hk => latM_no hno k hk), by rw [met_step (i := i) hnds hkK hkL, if_neg (fun ⟨k, h1, h2, h3⟩ => h2 (hno k h1 h3)), Nat.add_zero]; exact hLF, HM, E⟩ (by dsimp only; exact filter_lt hkL)
      · skip
        have hin3 : i = ids.length := by omega
        subst hin3
        rw [List.take_of_length_le (Nat.le_refl _)] at hin2
        have hLA := hLF.all
        refine c_exit ?_
        refine e_then (by simp) ?_
        refine e_then (by simp) ?_
        refine e_hit ?_
        refine e_K (hK17 _ _ _ _ ?_)
        refine c_seq fun K37 hK37 => ?_
        refine c_region ?_
        refine sv (o_as rfl) rfl ?_
        refine l_nil ?_
        refine e_K (hK37 _ _ _ _ ?_)
        refine c_seq fun K38 hK38 => ?_
        refine c_block ?_
        refine c_loop (σ := Nat × (Nat → Int) × Value × List Nat × Value) (fun ⟨j, lf, hv, h, vo⟩ => [(11, .pointer (some ⟨gr, 0, none⟩)), (16, vo)]) (fun ⟨j, lf, hv, h, vo⟩ w1 => j ≤ ids.length ∧ OF 66 63 68 w w1 gr (Its.mk1 ids rks pt lf lv) (lat (prG m ids) ids.length) hv h ∧ (∀ k, k < ids.length → lf k = ((cnt (prG m ids) ids.length (ordI (ltG ids rks) (prG m ids) ids.length j) k : Nat) : Int)) ∧ Heap (ltG ids rks) h h.length ∧ h.Nodup ∧ (∀ k, k ∈ h ↔ k < ids.length ∧ okI (prG m ids) ids.length (ordI (ltG ids rks) (prG m ids) ids.length j) k) ∧ OwnS w1 9 vo ((ordI (ltG ids rks) (prG m ids) ids.length j).map (nm ids)) ∧ (∀ y ∈ ob vo, w.heap.size ≤ y) ∧ Mod [] w w1) (fun ⟨j, lf, hv, h, vo⟩ => ids.length - j) (⟨0, lf, hv, h, .slice none 0 0⟩) ⟨rfl, rfl, trivial⟩ (⟨by omega, F, hLA, H, hnd2, fun k => by rw [hmem, ok_cnt]; simp [ordI], OwnS.nil _ _, by simp [ob], E⟩) ?_
        rintro ⟨j, lf, hv, h, vo⟩ w19 ⟨hj, F, hLA, H, hnd3, hmem2, OO, LO, E⟩
        refine c_seq fun K39 hK39 => ?_
        refine c_seq fun K40 hK40 => ?_
        refine c_region ?_
        refine sv (o_mv rfl) rfl ?_
        refine sv (o_nilc rfl) rfl ?_
        refine sv (o_ld sc68 rfl (F.br.cell rfl)) rfl ?_
        refine sc (o_call ent31 rfl) (c_lenR _ (Its.mk1 ids rks pt lf lv) hv h F.oh) rfl fun v_ w20 h_ => ?_
        obtain ⟨rfl, E_⟩ := h_
        replace F := F.mod0 E_
        replace OO := OO.mod0 E_
        replace E := E.then E_
        refine sv (o_gtr rfl rfl) rfl ?_
        refine l_nil ?_
        refine e_K (hK40 _ _ _ _ ?_)
        refine c_if rfl (fun h122 => ?_) (fun h122 => ?_)
        · skip
          have hl0 : 0 < h.length := by omega
          have hnI : ∀ x ∈ h, x < (Its.mk1 ids rks pt lf lv).n := fun x hx => ((hmem2 x).1 hx).1
          have hlI : h.length ≤ 100000 := Nat.le_trans (F.len hnd3 hnI) hn
          refine c_skip ?_
          refine e_K (hK39 _ _ _ _ ?_)
          refine c_block ?_
          refine c_seq fun K41 hK41 => ?_
          refine c_region ?_
          refine sv (o_mv rfl) rfl ?_
          refine sv (o_mki Try.underlying67 rfl rfl) rfl ?_
          refine sc (o_call ent32 rfl) (c_hpop _ (Its.mk1 ids rks pt lf lv) gr hv h F.br F.oh F.it hnI hSo H hlI hl0) rfl fun v_ w21 h_ => ?_
          obtain ⟨x, hv2, hh, rfl, hp, hmin, HH, Br2, O2, hob, EP_⟩ := h_
          have hxm : x ∈ h := hp.mem_iff.1 (by simp)
          obtain ⟨hxn, hxo⟩ := (hmem2 x).1 hxm
          have hE0 := E.size
          replace OO := Own.mod OO EP_ (fun z hz hz' => by rcases List.mem_cons.1 hz' with h9 | h9; exact Own.neT OO F.br (by decide) z hz h9; exact Own.neO OO F.oh (by decide) z hz h9)
          replace E := E.trans' EP_ (fun z hz => .inr (by rcases List.mem_cons.1 hz with h9 | h9; subst h9; exact F.ngr; exact F.nhv z h9))
          have F6 := F.row EP_ Br2 O2 (fun z hz => .inl (by rw [← hob]; exact hz)) hE0
          have hnext := ordI_next hAc hSo hxn hxo (fun z hz hok => hmin z ((hmem2 z).2 ⟨hz, hok⟩))
          have R0 := Rdy.pop hnd3 hmem2 hp
          have hG0 := LG.start (x := x) hLA
          refine sv ((o_taN Try.underlying63 rfl rfl)) rfl ?_
          refine sv (o_as rfl) rfl ?_
          refine l_nil ?_
          refine e_K (hK41 _ _ _ _ ?_)
          refine c_seq fun K42 hK42 => ?_
          refine c_region ?_
          refine sv (o_mv rfl) rfl ?_
          refine sv (o_mv rfl) rfl ?_
          refine sv (o_nilc rfl) rfl ?_
          refine sv (o_fa0 fd66_0 rfl) rfl ?_
          refine sv (o_ld sc9 rfl ((F6.it x hxn).cell rfl)) rfl ?_
          refine s_bslice (cs := [_]) sl23 zv9 rfl rfl rfl (by decide) rfl fun g5 w22 N5 => ?_
          have Lg5_E := N5.le E
          have Dix_g5 := N5.ne (F6.it x hxn)
          replace F6 := F6.mod0 N5.mod
          replace OO := OO.mod0 N5.mod
          replace E := E.then N5.mod
          have Bg5 := N5.blk
          have hjl := ordI_len (lt := ltG ids rks) hAc j hj
          have hol : ((ordI (ltG ids rks) (prG m ids) ids.length j).map (nm ids)).length = j := by rw [List.length_map]; exact hjl
          refine s_append sl23 rfl rfl OO (Src.own Try.underlying23 (Own.all (cs := [_]) Bg5 rfl (by omega)) (by simp [Value.oneCell'])) (by decide) (by omega) (by omega) rfl fun vo2 w23 A1 => ?_
          have OO2 : OwnS w23 9 vo2 ((ordI (ltG ids rks) (prG m ids) ids.length (j + 1)).map (nm ids)) := OwnS.to A1.own (by rw [hnext]; simp) (by rw [hnext]; simp)
          have LO2 : ∀ y ∈ ob vo2, w.heap.size ≤ y := fun y hy => (A1.ob_ y hy).elim (LO y) (fun h => Nat.le_trans E.size h)
          replace F6 := F6.modM A1.mod (fun k hk hx => Own.neT OO (F6.it k hk) (by decide) _ hx rfl) (fun k hk z hz hz' => Own.neO OO (F6.la k hk) (by decide) z hz' hz) (fun hx => Own.neT OO F6.br (by decide) _ hx rfl) (fun z hz hz' => Own.neO OO F6.oh (by decide) z hz' hz)
          replace E := E.trans' A1.mod (fun z hz => .inr (LO z hz))
          obtain ⟨adL, cL, hlvx, hcL1, hcL2⟩ := (F6.la x hxn).form
          have hlxl := lat_len (prG m ids) ids.length x
          refine sv (o_as rfl) rfl ?_
          refine l_nil ?_
          refine e_K (hK42 _ _ _ _ ?_)
          refine c_seq fun K43 hK43 => ?_
          refine c_region ?_
          refine sv (o_mv rfl) rfl ?_
          refine sv (o_nilc rfl) rfl ?_
          refine sv (o_fa0 fd66_3 rfl) rfl ?_
          refine sv ((o_ld sc64 rfl ((F6.it x hxn).cell rfl)).to hlvx) rfl ?_
          refine sv (o_len Try.underlying64 rfl) rfl ?_
          refine sv (o_mv rfl) rfl ?_
          refine l_nil ?_
          refine e_K (hK43 _ _ _ _ ?_)
          refine c_block ?_
          refine c_loop (σ := Nat × (Nat → Int) × Value × List Nat) (fun ⟨d, lg, hu, g'⟩ => [(11, .pointer (some ⟨gr, 0, none⟩)), (16, vo2), (137, .slice adL (lat (prG m ids) ids.length x).length cL), (138, .int .i64 (lat (prG m ids) ids.length x).length), (139, .int .i64 (d : Int))]) (fun ⟨d, lg, hu, g'⟩ w1 => d ≤ (lat (prG m ids) ids.length x).length ∧ OF 66 63 68 w w1 gr (Its.mk1 ids rks pt lg lv) (lat (prG m ids) ids.length) hu g' ∧ LG (prG m ids) ids.length (ordI (ltG ids rks) (prG m ids) ids.length j) x ((lat (prG m ids) ids.length x).take d) lg ∧ Heap (ltG ids rks) g' g'.length ∧ Rdy (prG m ids) ids.length (ordI (ltG ids rks) (prG m ids) ids.length j) x ((lat (prG m ids) ids.length x).take d) g' ∧ OwnS w1 9 vo2 ((ordI (ltG ids rks) (prG m ids) ids.length (j + 1)).map (nm ids)) ∧ Mod [] w w1) (fun ⟨d, lg, hu, g'⟩ => (lat (prG m ids) ids.length x).length - d) (⟨0, lf, hv2, hh⟩) ⟨rfl, rfl, rfl, rfl, rfl, trivial⟩ (⟨by omega, F6, hG0, HH, R0, OO2, E⟩) ?_
          rintro ⟨d, lg, hu, g'⟩ w24 ⟨hd, F, hG, H, hR, OO, E⟩
          refine c_seq fun K44 hK44 => ?_
          refine c_region ?_
          refine sv (o_lss rfl rfl) rfl ?_
          refine l_nil ?_
          refine e_K (hK44 _ _ _ _ ?_)
          refine c_seq fun K45 hK45 => ?_
          refine c_if rfl (fun h140 => ?_) (fun h140 => ?_)
          · skip
            have hlt : d < (lat (prG m ids) ids.length x).length := by omega
            obtain ⟨y, hx_y⟩ : ∃ y, (lat (prG m ids) ids.length x)[d]? = some y := ⟨_, List.getElem?_eq_getElem hlt⟩
            obtain ⟨hyn, hyx, hpy⟩ := lat_mem.1 (List.mem_of_getElem? hx_y)
            have Ol : OwnR (Its.mk1 ids rks pt lg lv) 63 _ (.slice adL (lat (prG m ids) ids.length x).length cL) (lat (prG m ids) ids.length x) := hlvx ▸ F.la x hxn
            obtain ⟨aL, haL, hcL⟩ := OwnR.at_ Ol hlt
            have hat : at0 (lat (prG m ids) ids.length x) d = y := by simp [at0, hx_y]
            rw [hat] at hcL
            obtain rfl := haL
            have hnD := not_take_of_nd (lat_nd (prG m ids) ids.length x) hx_y
            obtain ⟨hc1, hG2⟩ := hG.step hyn hxn (Ne.symm hyx) hpy hxo.1 hnD
            have hb147 : -9223372036854775808 ≤ lg y - 1 ∧ lg y - 1 ≤ 9223372036854775807 := by
              have := @cnt_le (prG m ids) ids.length ((ordI (ltG ids rks) (prG m ids) ids.length j) ++ [x]) y
              omega
            have hgI : ∀ k ∈ g', k < ids.length := fun k hk => ((hR.mem k).1 hk).1
            have hlI : g'.length ≤ 100000 := Nat.le_trans (F.len hR.nd hgI) hn
            refine c_skip ?_
            refine e_K (hK45 _ _ _ _ ?_)
            refine c_seq fun K46 hK46 => ?_
            refine c_block ?_
            refine c_seq fun K47 hK47 => ?_
            refine c_region ?_
            refine sv (o_ix sl64 rfl rfl (by omega)) rfl ?_
            refine sv (o_ld sc63 rfl hcL) rfl ?_
            refine sv (o_as rfl) rfl ?_
            refine l_nil ?_
            refine e_K (hK47 _ _ _ _ ?_)
            refine c_seq fun K48 hK48 => ?_
            refine c_region ?_
            refine sv (o_mv rfl) rfl ?_
            refine sv (o_nilc rfl) rfl ?_
            refine sv (o_fa0 fd66_2 rfl) rfl ?_
            refine sv (o_ld sc3 rfl ((F.it y hyn).cell rfl)) rfl ?_
            refine sv ((o_subN rfl rfl hb147)) rfl ?_
            refine sv (o_nilc rfl) rfl ?_
            refine sv (o_fa0 fd66_2 rfl) rfl ?_
            have By := F.it y hyn
            refine s_st sc3 By rfl rfl rfl (by simp) fun w25 PZ => ?_
            have F2 : OF 66 63 68 w w25 gr (Its.mk1 ids rks pt (upd lg y (lg y - 1)) lv) (lat (prG m ids) ids.length) hu g' := F.setl hyn PZ rfl
            replace OO := Own.mod OO PZ.mod (fun z hz hz' => by simp at hz'; subst hz'; exact Own.neT OO By (by decide) _ hz rfl)
            replace E := E.trans' PZ.mod (fun z hz => .inr (by simp at hz; subst hz; exact F.npt y hyn))
            refine l_nil ?_
            refine e_K (hK48 _ _ _ _ ?_)
            refine c_seq fun K49 hK49 => ?_
            refine c_region ?_
            refine sv (o_mv rfl) rfl ?_
            refine sv (o_nilc rfl) rfl ?_
            refine sv (o_fa0 fd66_2 rfl) rfl ?_
            refine sv ((o_ld sc3 rfl ((F2.it y hyn).cell rfl)).to (v' := .int .i64 ((cnt (prG m ids) ids.length ((ordI (ltG ids rks) (prG m ids) ids.length j) ++ [x]) y : Nat) : Int)) (congrArg (Value.int .i64) ((upd_same _ _ _).trans hc1))) rfl ?_
            refine sv (o_eql rfl rfl) rfl ?_
            refine l_nil ?_
            refine e_K (hK49 _ _ _ _ ?_)
            refine c_if rfl (fun h154 => ?_) (fun h154 => ?_)
            · skip
              have hc0 : cnt (prG m ids) ids.length ((ordI (ltG ids rks) (prG m ids) ids.length j) ++ [x]) y = 0 := by omega
              refine c_region ?_
              refine sv (o_mv rfl) rfl ?_
              refine sv (o_mki Try.underlying67 rfl rfl) rfl ?_
              refine sv (o_mv rfl) rfl ?_
              refine sv (o_mki Try.underlying63 rfl rfl) rfl ?_
              refine sc (o_call ent30 rfl) (c_hpush _ (Its.mk1 ids rks pt (upd lg y (lg y - 1)) lv) gr hu g' F2.br F2.oh F2.it hgI hSo H hlI y hyn) rfl fun v_ w26 h_ => ?_
              obtain ⟨hv3, hh2, hp2, HH2, Br3, O3, hob2, EP_⟩ := h_
              have hE1 := E.size
              replace OO := Own.mod OO EP_ (fun z hz hz' => by rcases List.mem_cons.1 hz' with h9 | h9; exact Own.neT OO F2.br (by decide) z hz h9; exact Own.neO OO F2.oh (by decide) z hz h9)
              replace E := E.trans' EP_ (fun z hz => .inr (by rcases List.mem_cons.1 hz with h9 | h9; subst h9; exact F2.ngr; exact F2.nhv z h9))
              have F7 := F2.row EP_ Br3 O3 hob2 hE1
              refine l_nil ?_
              refine e_in (by simp) ?_
              refine e_K (hK46 _ _ _ _ ?_)
              refine c_region ?_
              refine sv (o_addN rfl rfl (by omega)) rfl ?_
              refine sv (o_mv rfl) rfl ?_
              refine l_nil ?_
              exact e_round (σ := Nat × (Nat → Int) × Value × List Nat) (s := ⟨d, lg, hu, g'⟩) (⟨d + 1, upd lg y (lg y - 1), hv3, hh2⟩) ⟨rfl, rfl, rfl, rfl, rfl, trivial⟩ ⟨by omega, F7, by rw [take_succ_snoc hx_y]; exact hG2, HH2, by rw [take_succ_snoc hx_y]; exact hR.push (ordI_came _ j) hxn hxo.1 hyn hyx hpy hc0 hnD hp2, OO, E⟩ (by dsimp only; omega)
            · skip
              have hc0 : cnt (prG m ids) ids.length ((ordI (ltG ids rks) (prG m ids) ids.length j) ++ [x]) y ≠ 0 := by omega
              refine c_skip ?_
              refine e_in (by simp) ?_
              refine e_K (hK46 _ _ _ _ ?_)
              refine c_region ?_
              refine sv (o_addN rfl rfl (by omega)) rfl ?_
              refine sv (o_mv rfl) rfl ?_
              refine l_nil ?_
              exact e_round (σ := Nat × (Nat → Int) × Value × List Nat) (s := ⟨d, lg, hu, g'⟩) (⟨d + 1, upd lg y (lg y - 1), hu, g'⟩) ⟨rfl, rfl, rfl, rfl, rfl, trivial⟩ ⟨by omega, F2, by rw [take_succ_snoc hx_y]; exact hG2, H, by rw [take_succ_snoc hx_y]; exact hR.skip hc0, OO, E⟩ (by dsimp only; omega)
          · skip
            have hdl : (lat (prG m ids) ids.length x).take d = (lat (prG m ids) ids.length x) := List.take_of_length_le (by omega)
            rw [hdl] at hG hR
            have hj2 : j + 1 ≤ ids.length := by have h8 := (ordI_came (pr := prG m ids) (n := ids.length) (ltG ids rks) (j + 1)).all.1; rw [hnext, List.length_append, List.length_singleton, hjl] at h8; exact h8
            refine c_exit ?_
            refine e_then (by simp) ?_
            refine e_then (by simp) ?_
            refine e_hit ?_
            refine e_in (by simp) ?_
            exact e_round (σ := Nat × (Nat → Int) × Value × List Nat × Value) (s := ⟨j, lf, hv, h, vo⟩) (⟨j + 1, lg, hu, g', vo2⟩) ⟨rfl, rfl, trivial⟩ ⟨hj2, F, by rw [hnext]; exact hG.done, H, hR.done.1, by rw [hnext]; exact hR.done.2, OO, LO2, E⟩ (by dsimp only; omega)
        · skip
          have hh0 : h = [] := List.eq_nil_of_length_eq_zero (by omega)
          subst hh0
          have hall := all_came hAc (fun k hk => by have := (hmem2 k).2 hk; simp at this)
          have hjn : j = ids.length := by have := (ordI_came (ltG ids rks) j).full hall; rw [ordI_len hAc j hj] at this; exact this
          subst hjn
          refine c_exit ?_
          refine e_then (by simp) ?_
          refine e_then (by simp) ?_
          refine e_hit ?_
          refine e_K (hK38 _ _ _ _ ?_)
          refine c_seq fun K50 hK50 => ?_
          refine c_region ?_
          refine sv (o_mv rfl) rfl ?_
          refine sv (o_as rfl) rfl ?_
          refine sv (o_as rfl) rfl ?_
          refine l_nil ?_
          refine e_K (hK50 _ _ _ _ ?_)
          refine c_ret ?_
          exact ret2 rfl rfl rfl ⟨_, by rw [ordG_ok hlr hnds hin2], by rw [ordG_ok hlr hnds hin2]; exact OO, LO, E⟩
end Go.Proofs.Ythmohmpalbnjoaa.V

set_option linter.unusedVariables false
set_option linter.unusedSimpArgs false
namespace Go.Proofs.Ythmohmpalbnjoaa.V
open Go
/-! ## the calls of a law: their weight, what they build -/
def lens (l : List Str) : Nat := (l.map List.length).sum
theorem lens_succ {l : List Str} {j : Nat} {x : Str} (h : l[j]? = some x) : lens (l.take (j + 1)) = lens (l.take j) + x.length := by
  unfold lens; rw [take_succ_snoc h]; simp
theorem lens_take (l : List Str) (j : Nat) : lens (l.take j) ≤ lens l := by
  have h : lens l = lens (l.take j) + lens (l.drop j) := by
    unfold lens; rw [← List.sum_append, ← List.map_append, List.take_append_drop]
  omega
def cw (p : Str × List Str) : Nat := 1 + p.1.length + p.2.length + lens p.2
def gw (cs : Gm) : Nat := (cs.map cw).sum
theorem gw_succ {cs : Gm} {k : Nat} {x : Str × List Str} (h : cs[k]? = some x) : gw (cs.take (k + 1)) = gw (cs.take k) + cw x := by
  unfold gw; rw [take_succ_snoc h]; simp
theorem gw_take (cs : Gm) (k : Nat) : gw (cs.take k) ≤ gw cs := by
  have h : gw cs = gw (cs.take k) + gw (cs.drop k) := by
    unfold gw; rw [← List.sum_append, ← List.map_append, List.take_append_drop]
  omega
theorem gw_part {cs : Gm} {k : Nat} {x : Str × List Str} (h : cs[k]? = some x) : gw (cs.take k) + cw x ≤ gw cs := by
  rw [← gw_succ h]; exact gw_take _ _
def greatC (cs : Gm) : Bool := decide (4096 < gw cs) || decide (60 < cs.length)
theorem great_yes {cs : Gm} (h : 4096 < gw cs) : greatC cs = true := by simp [greatC, h]
theorem great_rest {cs : Gm} (h : gw cs ≤ 4096) : greatC cs = decide ((cs.length : Int) > 60) := by
  have : ¬ 4096 < gw cs := by omega
  unfold greatC
  rw [decide_eq_false this, Bool.false_or]
  congr 1
  apply propext
  omega
structure CSm (cs : Gm) : Prop where
  len : cs.length ≤ 140737488351232
  one : ∀ p ∈ cs, p.1.length ≤ 140737488351232 ∧ p.2.length ≤ 140737488351232 ∧ ∀ x ∈ p.2, x.length ≤ 140737488351232
theorem lens_mem {l : List Str} {x : Str} (h : x ∈ l) : x.length ≤ lens l := by
  obtain ⟨i, hi⟩ := List.mem_iff_getElem?.1 h
  have h1 := lens_succ hi
  have h2 := lens_take l (i + 1)
  omega
structure CFew (cs : Gm) : Prop where
  len : cs.length ≤ 60
  one : ∀ p ∈ cs, p.1.length ≤ 4096 ∧ p.2.length ≤ 4096 ∧ ∀ x ∈ p.2, x.length ≤ 4096
theorem great_no {cs : Gm} (h : greatC cs = false) : CFew cs := by
  unfold greatC at h
  rw [Bool.or_eq_false_iff] at h
  have h1 := of_decide_eq_false h.1
  have h2 := of_decide_eq_false h.2
  refine ⟨by omega, fun p hp => ?_⟩
  obtain ⟨k, hk⟩ := List.mem_iff_getElem?.1 hp
  have h3 := gw_part hk
  unfold cw at h3
  refine ⟨by omega, by omega, fun x hx => ?_⟩
  have := lens_mem hx
  omega
def bm (cs : Gm) : Gm := cs.foldl (fun m p => (addG m p.1 p.2).1) []
theorem bm_succ {cs : Gm} {k : Nat} {x : Str × List Str} (h : cs[k]? = some x) : bm (cs.take (k + 1)) = (addG (bm (cs.take k)) x.1 x.2).1 := by
  unfold bm; rw [take_succ_snoc h, List.foldl_append]; rfl
theorem addG_len (m : Gm) (s : Str) (a : List Str) : (addG m s a).1.length ≤ m.length + 1 := by
  unfold addG
  split
  · simp
  · split
    · simp
    · split <;> simp
theorem foldA_len : ∀ (cs m : Gm), (cs.foldl (fun m p => (addG m p.1 p.2).1) m).length ≤ m.length + cs.length
  | [], m => by simp
  | c :: cs, m => by
    have h1 := foldA_len cs (addG m c.1 c.2).1
    have h2 := addG_len m c.1 c.2
    simp only [List.foldl_cons, List.length_cons] at *
    omega
theorem bm_len (cs : Gm) : (bm cs).length ≤ cs.length := by have := foldA_len cs []; simpa [bm] using this
theorem foldA_wf : ∀ (cs m : Gm), GWf m → GWf (cs.foldl (fun m p => (addG m p.1 p.2).1) m)
  | [], m, h => h
  | c :: cs, m, h => foldA_wf cs _ (h.add c.1 c.2)
theorem bm_wf (cs : Gm) : GWf (bm cs) := foldA_wf cs [] .nil
/-! ## the graph of the live check -/
def aM1 : Gm := [([97], [])]
def aM2 : Gm := [([97], []), ([98], [[97]])]
def aM3 : Gm := [([97], []), ([98], [[97]]), ([99], [[97]])]
def aM4 : Gm := [([97], []), ([98], [[97]]), ([99], [[97]]), ([100], [[98], [99]])]
theorem aA1 : addG [] [97] [] = (aM1, 0) := by rfl
theorem aA2 : addG aM1 [98] [[97]] = (aM2, 0) := by rfl
theorem aA3 : addG aM2 [99] [[97]] = (aM3, 0) := by rfl
theorem aA4 : addG aM3 [100] [[98], [99]] = (aM4, 0) := by rfl
theorem aH : heads aM4 = [[100]] := by rfl
theorem aO : ordG aM4 [[100], [99], [98]] [⟨0, 0, []⟩, ⟨1, 0, []⟩, ⟨2, 0, []⟩] = ([[99], [98], [100]], 0) := by decide
/-- the nodes of the reference, in memory -/
structure NdR (A : List Nat) (w : World) (m : Gm) (v : Value) : Prop where
  rep : Rep A w (ndD m) v
theorem NdR.mod0 {A : List Nat} {w w' : World} {m : Gm} {v : Value} (h : NdR A w m v) (k : Mod [] w w') : NdR A w' m v := ⟨h.rep.to0 k⟩
theorem NdR.nil (A : List Nat) (w : World) : NdR A w [] (.slice none 0 0) := ⟨Rep.sl_nil⟩
theorem ndD_one {w : World} {g T : Nat} {s : Str} {ah : List Str} {u : Value} (B : Blk w g T [S s, u]) (hu : u.oneCell' = true) (R : Rep [] w (strD ah) u) : Rep [] w (ndD [(s, ah)]) (.slice (some ⟨g, 0, none⟩) 1 1) :=
  (Own.all (sz := 2) (c := 1) B rfl (by omega)).rep (Reps.cons_ (Rep.v_ rfl) (Reps.cons_ R Reps.nil_)) (by simp) rfl (by simp)
end Go.Proofs.Ythmohmpalbnjoaa.V
